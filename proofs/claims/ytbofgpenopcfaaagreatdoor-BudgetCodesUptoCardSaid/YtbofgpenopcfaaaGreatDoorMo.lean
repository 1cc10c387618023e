import Derived.Test.YtbofgpenopcfaaaGreatDoorMn
import Derived.Test.YtbofgpenopcfaaaGreatDoorMf
import Derived.Test.YtbofgpenopcfaaaGreatDoorMc
import Derived.Test.YtbofgpenopcfaaaGreatDoorMm
import Derived.Test.YtbofgpenopcfaaaGreatDoorMg
import Derived.Test.YtbofgpenopcfaaaGreatDoorMh
import Derived.Test.YtbofgpenopcfaaaGreatDoorMk
set_option maxHeartbeats 16000000
namespace Go.Proofs.YtbofgpenopcfaaaGreatDoor
open Go Go.RowKit
set_option linter.unusedSimpArgs false
set_option linter.unusedVariables false
set_option linter.unusedSectionVars false

instance:TI Tryz.prog 63 .u16:=⟨Tryz.underlying63⟩

theorem Qdz {xs:List Nat} {rest:List Value} {o u:Nat} (ho:o<xs.length):(ZR xs rest).setIfInBounds o (yv u)=ZR (xs.set o u) rest:=by
 apply Array.ext'
 simp[ZR,List.set_append,ho,List.map_set]
theorem Qc0 {P:Program} {t:TypeId} [T1 P t] {T:TypeId} {fz:Nat × Nat} {b o:Nat} {v:Value} {cs:Array Value} {w:World} (hc:v.cells.toList=[v]) (hv:v.oneCell'=true) (hb:w.heap[b]?=some (.cells cs T fz)) (hz:o<fz.1) (hl:o<cs.size) :
  ∃ w',(Instr.storeAt t (.pointer (some ⟨b,o,none⟩)) v).run P w=.ok () w'∧w'.heap[b]?=some (.cells (cs.setIfInBounds o v) T fz)∧(∀ j,j≠b→w'.heap[j]?=w.heap[j]?)∧w'.heap.size=w.heap.size∧w'.os=w.os∧w'.tape=w.tape∧w'.output=w.output:=by
 have hcl:w.cell? ⟨b,o,none⟩=some cs[o]:=Z4 hb (Array.getElem?_eq_getElem hl)
 have hf:w.frozen? ⟨b,o,none⟩=false:=by simp[World.frozen?,hb];omega
 have hrun:(store (⟨b,o,none⟩:Addr) v).run P w=.ok () (w.setCell ⟨b,o,none⟩ v):=by
  rw[run_store P w _ v .plain hv,hcl]
  simp[hf]
 have hn:v.cells.size=1:=by rw[← Array.length_toList,hc];rfl
 refine⟨w.setCell ⟨b,o,none⟩ v,?_,by simp[World.setCell,Array.getElem?_modify,hb],fun j hj=>Below.heap_setCell _ _ _ _ hj,by simp[World.setCell],rfl,rfl,rfl⟩
 simp only[Instr.storeAt,Instr.sureAddr,storeVar,Sem.run_bind,Sem.run_pure,Result.andThen_ok,T1.size]
 simp[hn,hc,storeCells,ZD,hrun]

section
variable {c:Cx} {Q:Exit→Act→World→Prop} {m:Mode} {F:ak} {H:aj} {r:List bT} {g:Option (Option Tmp × Bool)} {ns:Bool} {d:Tmp} {ty t t':TypeId} {x y:Operand} {l:List UInt8} {i:Nat}
theorem Qc4 {e:TypeId} [dL c.P t] [dh c.P t' e] [TI c.P e .u8] (hm:m.dR ns r) (hd:Qw c.n (some d)=true) (hg:Qi F g=some true) (hx:ev F x=some (sv l))
  (h:∀ b cap rest fz,l.length≤cap→l.length≤Prod.fst fz→JO c Q m r ((d,.slice (some ⟨b,0,none⟩) l.length cap)::F) ((b,.cells (ZR (bf l) rest) e fz)::H)):JO c Q m (⟨some d,.convert t t' x,ty,g,.seq,ns⟩::r) F H:=by
 refine⟨⟨hd,.inr ⟨hg,fun a w st hs=>?_⟩⟩⟩
 unfold Oper.wp bT.oper
 have hrun:=run_bytes_of_string (P:=c.P) w t t' e ⟨l.toArray⟩ dL.und dh.und TI.und
 have hrow:bytesRow ⟨l.toArray⟩ (grownCap w (ByteArray.mk l.toArray).size 0 e)=ZR (bf l) (List.replicate (grownCap w (ByteArray.mk l.toArray).size 0 e-(ByteArray.mk l.toArray).size) (.int .u8 0)):=by
  apply Array.ext'
  simp[bytesRow,ZR,bf,Function.comp]
 rw[hrow]at hrun
 generalize hcap:grownCap w (ByteArray.mk l.toArray).size 0 e=cap at hrun
 have hz0:l.length≤(ZR (bf l) (List.replicate (cap-(ByteArray.mk l.toArray).size) (.int .u8 0))).size:=by rw[Q4z,Xt];omega
 generalize (ZR (bf l) (List.replicate (cap-(ByteArray.mk l.toArray).size) (.int .u8 0))).size=z at hrun hz0
 have hexec:(execOp a.eval ⟨some d,.convert t t' x,ty, "",#[],none⟩).run c.P w=.ok (.value (.slice (some ⟨w.heap.size,0,none⟩) l.length cap)) (w.drew.alloc (.cells (ZR (bf l) (List.replicate (cap-(ByteArray.mk l.toArray).size) (.int .u8 0))) e (z,z+1))):=by
  simp only[execOp,st.fr.ev hx,Sem.run_bind,hrun,Result.andThen_ok,Sem.run_pure,Xn]
 rw[hexec]
 have hnew:(w.drew.alloc (.cells (ZR (bf l) (List.replicate (cap-(ByteArray.mk l.toArray).size) (.int .u8 0))) e (z,z+1))).heap[w.heap.size]?=some (.cells (ZR (bf l) (List.replicate (cap-(ByteArray.mk l.toArray).size) (.int .u8 0))) e (z,z+1)):=World.alloc_heap_new w.drew _
 have hold:∀ k,k<w.heap.size→(w.drew.alloc (.cells (ZR (bf l) (List.replicate (cap-(ByteArray.mk l.toArray).size) (.int .u8 0))) e (z,z+1))).heap[k]?=w.heap[k]?:=fun k hk=>Below.heap_alloc w.drew _ k hk
 obtain⟨st',hstep,hkk⟩:=ZV (N:=[]) (N':=[(w.heap.size,.cells (ZR (bf l) (List.replicate (cap-(ByteArray.mk l.toArray).size) (.int .u8 0))) e (z,z+1))]) (H0:=H) st aA aA (fun q hq=>by cases List.mem_singleton.1 hq;exact hnew) (fun k hk=>.inr (by simp[keys]at hk;omega)) (fun k hk _=>hold k hk) aA rfl rfl rfl
 have hcl:l.length≤cap:=by rw[← hcap,Xn];exact grownCap_ge _ _ _ _
 have hk2:Kp [] w (w.drew.alloc (.cells (ZR (bf l) (List.replicate (cap-(ByteArray.mk l.toArray).size) (.int .u8 0))) e (z,z+1))):=⟨rfl,rfl,rfl,by simp,fun k hk _=>hold k hk⟩
 refine⟨hstep,(d,_)::F,(w.heap.size,_)::H,m,(st'.perm List.perm_append_comm).put _ hd,fun k hk'=>hkk k ?_,ZY hk2 hs hm,(h _ cap _ _ hcl hz0).h⟩
 simp only[keys,List.map_cons,Vj,List.mem_cons,List.mem_append,List.map_nil]at hk' ⊢
 rcases hk' with h1|h1
 ·exact .inr (.inl h1)
 ·exact .inl h1
theorem Qnl {b o u:Nat} (k:Nat) {xs:List Nat} {rest:List Value} {T:TypeId} {fz:Nat × Nat} [T1 c.P t] (hg:Qi F g=some true) (hm:m.aO ns r) (hx:ev F x=some (.pointer (some ⟨b,o,none⟩))) (hy:ev F y=some (yv u))
  (hb:H[k]?=some (b,.cells (ZR xs rest) T fz)) (hz:o<fz.1) (hl:o<xs.length) (h:JO c Q m.spent r F (H.set k (b,.cells (ZR (xs.set o u) rest) T fz))) :
  JO c Q m (⟨none,.store t x y,ty,g,.seq,ns⟩::r) F H:=by
 refine⟨⟨rfl,.inr ⟨hg,fun a w st _=>?_⟩⟩⟩
 have hm':(b,Obj.cells (ZR xs rest) T fz)∈H:=List.mem_of_getElem? hb
 obtain⟨w',h1,h2,h3,h4,h5,h6,h7⟩:=Qc0 (P:=c.P) (t:=t) (o:=o) (v:=yv u) (w:=w) rfl rfl (st.hs.blk _ hm') hz (by rw[Q4z];omega)
 rw[Qdz hl]at h2
 obtain⟨st',hstep⟩:=Qdv st hb h2 h3 h4 h5 h6 h7
 unfold Oper.wp bT.oper
 simp only[execOp,st.fr.ev hx,st.fr.ev hy,Sem.run_bind,h1,Result.andThen_ok,Sem.run_pure]
 exact⟨hstep,F,_,m.spent,st',fun j hj=>.inl (Q66 hb j hj),Za hm,h.h⟩
end

section
variable {c:Cx} {Q:Exit→Act→World→Prop} {F:ak} {H Hs:aj} {r:List bT} {g:Option (Option Tmp × Bool)} {ns:Bool} {ty:TypeId}
theorem Qac {A N B:aj} {f:FuncId} {args:Array Operand} {ats:Array TypeId} {vs:List Value} {R:World→Value→World→Prop} {dd:Option Tmp} [TF c.P f] (hH:H=A++(N++B)) (iV:HSub Hs (A++B)) (hd:Qw c.n dd=true) (hg:Qi F g=some true) (ha:Zy F args.toList=some vs)
  (hc:∀ w,Kp c.M c.w0 w→aG H w→Calls c.P f vs.toArray w (aQ fun v w'=>Kp (keys N) w w'∧R w v w'))
  (h:∀ w v w',Kp c.M c.w0 w→aG H w→Kp (keys N) w w'→R w v w'→∃ N',(keys N').Perm (keys N)∧(∀ p∈N',w'.heap[p.1]?=some p.2)∧JO c Q (.draw Hs true) r (dN F dd v) (A++(N'++B))) :
  JO c Q (.draw Hs true) (⟨dd,.call ⟨.value (.func f),args,ats⟩,ty,g,.seq,ns⟩::r) F H:=by
 subst hH
 refine⟨⟨hd,.inr ⟨hg,fun a w st hs=>?_⟩⟩⟩
 unfold Oper.wp bT.oper
 rw[XC st.fr ha]
 refine Calls.mono (hc w st.kp st.hs) fun e w' he=>?_
 cases e with
 | panicked ch=>exact he.elim
 | outgrown=>exact he.elim
 | returned v =>
  obtain⟨hk,hR⟩:=he
  obtain⟨N',hkeys,hb,hj⟩:=h w v w' st.kp st.hs hk hR
  have hp:(A++(N++B)).Perm ((A++B)++N):=(QX A N B).symm
  have hnd:=(st.perm hp).hs.nd
  rw[Vj,List.nodup_append]at hnd
  have hnd0:=hnd
  obtain⟨st',hstep,hkk⟩:=ZV (N':=N') st hp (hkeys.nodup_iff.2 hnd.2.1) hb (fun k hk'=>.inl (hkeys.mem_iff.1 hk')) (fun k h1 h2=>hk.block k h1 h2) hk.size hk.os hk.tape hk.output
  have hAB:aG (A++B) w':=by
   have h0:aG (A++B) w:=(HSub.sub (List.sublist_append_left (A++B) N)).aV (st.perm hp).hs
   exact h0.kp hk fun p hp' hpk=>hnd.2.2 p.1 (List.mem_map.2 ⟨p,hp',rfl⟩) p.1 hpk rfl
  refine⟨hstep,_,_,.draw Hs true,(st'.perm (QX A N' B)).put v hd,fun k hk'=>hkk k ?_,⟨rfl,fun _=>⟨rfl,iV.aV hAB⟩,fun _=>rfl,.inl rfl⟩,hj.h⟩
  obtain⟨q,hq,rfl⟩:=List.mem_map.1 hk'
  exact List.mem_map.2 ⟨q,(QX A N' B).mem_iff.2 hq,rfl⟩
end

theorem Qj7 (a:Int):(tx a).count 32=0:=List.count_eq_zero.2 fun h=>by
 have:=Q9o a 32 h
 simp at this
theorem Qba:∀ l:List Int,(dW l).count 32=l.length
 | []=>rfl
 | x::l=>by
  show (32::(tx x++dW l)).count 32=l.length+1
  rw[List.count_cons_self,List.count_append,Qj7,Qba l,Vq]
theorem Qig (l:List Int):(bU l).count 32≤l.length:=by
 cases l with
 | nil=>exact V7 _
 | cons x l =>
  show (tx x++dW l).count 32≤_
  rw[List.count_append,Qj7,Qba,Vq]
  exact Nat.le_succ _
structure SmT (l:List UInt8):Prop where
 len:l.length≤2000000
 cnt:l.count 32≤150
 pos:0<l.length
theorem SmT.ok {l:List UInt8} (h:SmT l):gy l:=.inr ⟨V0 h.len dq,V0 h.cnt dq⟩
theorem SmT.set {l:List UInt8} (h:SmT l) (i:Nat) (u:UInt8):gy (l.set i u):=.inr ⟨by have:=h.len;rw[List.length_set];omega,by have:=h.cnt;have:=Q85 l i u;omega⟩
theorem SmT.take {l:List UInt8} (h:SmT l) (i:Nat):gy (l.take i):=.inr ⟨by have:=h.len;rw[List.length_take];omega,V0 ((List.take_sublist i l).count_le 32) (V0 h.cnt dq)⟩
theorem SmT.more {l:List UInt8} (h:SmT l) (x y:List UInt8) (hx:x.length+y.length≤5):gy (x++(l++y)):=.inr ⟨by have:=h.len;rw[Vi,Vi];omega,by
 have:=h.cnt
 have h1:=List.count_le_length (a:=(32:UInt8)) (l:=x)
 have h2:=List.count_le_length (a:=(32:UInt8)) (l:=y)
 rw[List.count_append,List.count_append]
 omega⟩
theorem Qkl {m n:Nat} {t s:Int} {S:Sm} (hD:Dm m n S) (hm:m<6) (hn:n<6) (ht:t.natAbs<100) (hs:s.natAbs<100) (hb:Ok 6117 S):SmT (bU (encZ m n t s S)):=by
 have e8:(256:Nat) ^ 8=18446744073709551616:=by decide
 have hbd:=Q1z (m:=m) (n:=n) (t:=t) (s:=s) (K:=6117) dq (by rw[e8];omega) (by rw[e8];omega) (by rw[e8];omega) (by rw[e8];omega) hb
 have h1:=Q81 _ hbd
 have h2:=Qig (encZ m n t s S)
 rw[YV hD t s]at h1 h2
 have hmm:m*m≤25:=Vn (show m≤5 by omega) (show m≤5 by omega)
 have hmn:m*n≤25:=Vn (show m≤5 by omega) (show n≤5 by omega)
 have hnn:n*n≤25:=Vn (show n≤5 by omega) (show n≤5 by omega)
 refine⟨?_,by omega,?_⟩
 ·have h3:=V1 ((5*6117+1) / 2+2) (show 4+(m*m+(m*m+(m*n+(n*n+n*n))))≤129 by omega)
  exact V0 h1 (V0 h3 dq)
 ·show 0<(tx m++dW _).length
  have:=List.length_pos_iff.2 (Qkc m)
  rw[Vi]
  omega
theorem Qof:Wb 1 1 19≤6117:=of_decide_eq_true (by kernel_rfl)
theorem Qog:Mb 1 ((19+1) / 2)≤6117:=of_decide_eq_true (by kernel_rfl)
theorem Qmp {l k:List UInt8} {i:Nat} {v:UInt8} (h:bf k=(bf l).set i v.toNat):k=l.set i v:=Q9f (by rw[h];unfold bf;rw[List.map_set])

end Go.Proofs.YtbofgpenopcfaaaGreatDoor

namespace Go.Proofs.YtbofgpenopcfaaaGreatDoor
open Go Go.RowKit Go.Shelf
set_option linter.unusedSimpArgs false
set_option linter.unusedVariables false
set_option linter.unusedSectionVars false

theorem Qpn:LaysM.n171 Tryz.prog Qf1:={ Qo6 with
 i0:=by kernel_rfl
 i2:=by kernel_rfl
 i3:=by kernel_rfl
 i4:=by kernel_rfl
 i5:=by kernel_rfl
 i9:=by kernel_rfl
 i20:=by kernel_rfl
 i37:=by kernel_rfl
 i46:=by kernel_rfl
 i51:=by kernel_rfl
 i53:=by kernel_rfl
 i171:=by kernel_rfl
 i173:=by kernel_rfl
 i212:=by kernel_rfl
 i232:=by kernel_rfl
 i233:=by kernel_rfl
 m17:=by kernel_rfl
 m18:=by kernel_rfl
 m19:=by kernel_rfl }
def iU (w:World):Prop:=Lib.TabIs Tryz.prog w "internal/strconv.uint64pow10" .u64 Lib.pow10Tab
theorem Qn7:Tryz.prog.globalNamed "internal/strconv.uint64pow10" = some 1:=by kernel_rfl
theorem iU.mono {w w':World} (h:iU w) (hk:Kp [] w w'):iU w':=by
 unfold iU Lib.TabIs World.var? at h ⊢
 rw[Qn7]at h ⊢
 simp only[Option.bind_some]at h ⊢
 have hlt:1<w.heap.size:=by
  rcases Nat.lt_or_ge 1 w.heap.size with h'|h'
  ·exact h'
  ·rw[Array.getElem?_eq_none h']at h;cases h
 rw[hk.block _ hlt aA]
 exact h
theorem Qmm (w:World) (i:Nat) (hi:i<9223372036854775808) (ht:iU w) :
  Calls Tryz.prog 76 #[nv i] w (aQ fun v w'=>Kp [] w w'∧v=sv (tx (i:Int))) :=
 (Any.strconv_Itoa Qpn i oq oq w ht).mono fun e w' he => by
  obtain⟨rfl,k,os,rfl⟩:=he
  refine⟨⟨rfl,rfl,rfl,by simp[Go.Sort.grow,World.drewN],fun j hj _=>Array.getElem?_append_left hj⟩,?_⟩
  rw[← Qfk]
  unfold Lib.itoa
  rw[if_neg oq,Int.toNat_natCast]

set_option linter.unusedSimpArgs false
set_option linter.unusedVariables false
set_option linter.unusedSectionVars false
theorem Q23 (K:Nat) (w:World) (b:Nat) (W:WV) (m n t s:Nat) (T:WT) (S:Sm) (hW:dB W m n T S) (hD:Dm m n S) (hs:aG (aK b W m n t s T) w) (hm:m≤200) (hn:n≤200) (ht:t<1099511627777) (hs0:s<1099511627777) (htab:iU w)
  (hK:8≤K) (hK2:K≤3000000000) (hlen:(bU (encZ m n t s S)).length≤281474976710656) (hb:Ok K S) :
  Calls Tryz.prog 31 #[.pointer (some ⟨b,0,none⟩)] w (aQ fun v w'=>Kp [] w w'∧v=sv (bU (encZ m n t s S))):=by
 have hM:=QK hs
 have e8:(256:Nat) ^ 8=18446744073709551616:=by decide
 have hel:=YV hD t s
 have hbd:=Q1z (m:=m) (n:=n) (t:=t) (s:=s) (K:=K) hK (by rw[e8];omega) (by rw[e8];omega) (by rw[e8];omega) (by rw[e8];omega) hb
 refine Qa [] (keys (aK b W m n t s T)) hM (aK b W m n t s T) Tryz.func31 rfl mixed (by kernel_rfl) Tryz.ntmps31 Tryz.results31 rfl hs (fun p hp=>List.mem_map.2 ⟨p,hp,rfl⟩) ?_
 simp only[toS,Qe,Qx,Qo,Qr,ay,Ql,Qy,aB]
 unfold aK dF
 repeat' first|apply jS|apply jO|apply jN|refine Q1 ?_|refine Q0 ?_|apply jT
 refine Q1s (by kernel_rfl) rfl rfl rfl rfl ?_
 repeat' first|apply jS|apply jO|apply jD|apply jN|apply jT|refine Q1 ?_|refine Q2 ?_|refine Q0 ?_|refine Q7 ?_|refine Q3 ?_|apply jK|refine Q4 rfl ?_
 refine Qaf (l:=[(0,nv m),(1,nv n),(2,nv t),(3,nv s)]) (cs:=#[nv m,nv n,nv t,nv s]) rfl rfl rfl rfl ?_
 repeat' first|apply jN|apply jT|refine Q1 ?_|apply jB
 obtain⟨hd,hhd⟩:∃ hd:List Nat,hd=[m,n,t,s]:=⟨_,rfl⟩
 have hdl:hd.length=4:=by rw[hhd];rfl
 have hdb:∀ q,q<4→hd.getD q 0<9223372036854775808:=fun q hq=>by
  rcases(show q=0∨q=1∨q=2∨q=3 by omega)with rfl|rfl|rfl|rfl<;>rw[hhd]<;>simp<;>omega
 have hdc:∀ q,q<4→#[nv m,nv n,nv t,nv s][q]?=some (nv (hd.getD q 0)):=fun q hq=>by
  rcases(show q=0∨q=1∨q=2∨q=3 by omega)with rfl|rfl|rfl|rfl<;>rw[hhd]<;>rfl
 refine Qn (ι:=Nat × Value × aj) ⟨fun z=>[(30,nv z.1),(29,.agg #[nv m,nv n,nv t,nv s]),(3,z.2.1),(0,.pointer (some ⟨b,0,none⟩))],fun z=>z.2.2++aK b W m n t s T,
  fun z=>z.1≤4∧fU z.2.2 z.2.1 ((hd.take z.1).map fun(x:Nat)=>(x:Int)),fun z=>4-z.1⟩ (0,.slice none 0 0,[]) ⟨by omega,fU.nil⟩ aC (HSub.refl _) (fun z hz=>?_)
 obtain⟨q,v3,N⟩:=z
 obtain⟨hq,hO⟩:=hz
 dsimp only at hq hO ⊢
 by_cases hlt:q<4
 ·have hq1:=hdb q hlt
  repeat' first|apply jS|apply jO|apply jN|apply jT|(refine Qg (h1:=?_) (h2:=?_)<;>intro hc<;>try omega)|apply jK|refine Q5 rfl ?_|apply jB
  refine Qe8 rfl rfl rfl rfl hlt (hdc q hlt) ?_
  repeat' first|apply jO|apply jN|refine Q1 ?_|refine Q0 ?_|apply jT
  refine Q9 au rfl aF rfl (fun w hk hs2=>Qmm w (hd.getD q 0) hq1 (htab.mono (Z3 hs hk fun p hp=>hs2.blk p (List.mem_append_right _ hp)))) fun w v w' _ _ _ hR=>?_
  subst hR
  repeat' first|refine QH (h:=fun _=>?_)|fail
  rename_i b36
  refine Q10 (A:=[_]) (B:=aK b W m n t s T) hO (Q1u b36 (sv (tx ((hd.getD q 0:Nat):Int)))).rd Qb rfl au rfl rfl rfl rfl (by rw[List.length_map,List.length_take];omega) (fun v' N' aX=>?_)
  rw[show ((hd.take q).map fun(x:Nat)=>(x:Int))++[((hd.getD q 0:Nat):Int)]=((hd.take (q+1)).map fun(x:Nat)=>(x:Int)) by
   rw[List.take_add_one,Vj,List.getD,List.getElem?_eq_getElem (show q<hd.length by omega)];rfl]at aX
  repeat' first|apply jO|apply jN|apply jT|refine Q1 ?_|refine Q0 ?_|refine Qd ?_|apply jW
  exact Q8 (q+1,v',N') ⟨by dsimp only;omega,aX⟩ aW aC (HSub.skip (HSub.refl _))
 ·obtain rfl:q=4:=by omega
  repeat' first|apply jS|apply jO|apply jN|apply jT|refine Q1 ?_|(refine Qg (h1:=?_) (h2:=?_)<;>intro hc<;>try omega)|apply jU|apply jE|refine Q4 rfl ?_|apply Qc
  rw[show ((hd.take 4).map fun(x:Nat)=>(x:Int))=dw m n t s S 0 by rw[hhd];rfl]at hO
  refine Qt (A:=[]) (B:=N++aK b W m n t s T) rfl au rfl aF rfl (fun w _ hs=>Qbh w b W m n t s T S hW hD ((Qf (HSub.refl _)).aV hs) oq oq) fun w v w' _ _ _ hR=>?_
  obtain⟨N1,N2,N3,N4,N5,E1,E2,E3,E4,E5,rfl,_,hNew,bG,hO2,hO3,hO4,iy⟩:=hR
  refine⟨N1++(N2++(N3++(N4++N5))),hNew,?_⟩
  clear hNew
  obtain⟨A1,c1,rfl⟩:=bG.form
  obtain⟨A2,c2,rfl⟩:=hO2.form
  obtain⟨A3,c3,rfl⟩:=hO3.form
  obtain⟨A4,c4,rfl⟩:=hO4.form
  obtain⟨A5,c5,rfl⟩:=iy.form
  repeat' first|apply jS|apply jO|apply jN|refine Q2 ?_|refine Q6 ?_|refine Qh fun _=>?_|refine Q6 ?_|apply jT
  refine QB 0 rfl rfl rfl rfl rfl rfl rfl rfl ?_
  repeat' first|refine Q2 ?_|fail
  refine QB 0 rfl rfl rfl rfl rfl rfl rfl rfl ?_
  repeat' first|refine Q2 ?_|fail
  refine QB 0 rfl rfl rfl rfl rfl rfl rfl rfl ?_
  repeat' first|refine Q2 ?_|fail
  refine QB 0 rfl rfl rfl rfl rfl rfl rfl rfl ?_
  repeat' first|refine Q2 ?_|fail
  refine QB 0 rfl rfl rfl rfl rfl rfl rfl rfl ?_
  skip
  refine Zr (l:=[(0,.agg #[nv m,nv m,.slice A1 (m*m) c1]),(1,.agg #[nv m,nv m,.slice A2 (m*m) c2]),(2,.agg #[nv m,nv n,.slice A3 (m*n) c3]),(3,.agg #[nv n,nv n,.slice A4 (n*n) c4]),(4,.agg #[nv n,nv n,.slice A5 (n*n) c5])]) (cs:=smC m n (.slice A1 (m*m) c1) (.slice A2 (m*m) c2) (.slice A3 (m*n) c3) (.slice A4 (n*n) c4) (.slice A5 (n*n) c5)) rfl rfl rfl rfl dq dq (by kernel_rfl) (fun jA=>?_)
  repeat' first|apply jN|apply jT|refine Q1 ?_|refine ZC (h:=?_)|apply jB
  obtain⟨cs,hcs⟩:∃ cs,cs=smC m n (.slice A1 (m*m) c1) (.slice A2 (m*m) c2) (.slice A3 (m*n) c3) (.slice A4 (n*n) c4) (.slice A5 (n*n) c5):=⟨_,rfl⟩
  obtain⟨M,hMM⟩:∃ M:aj,M=N1++(N2++(N3++(N4++N5))):=⟨_,rfl⟩
  have hmm:m*m≤40000:=Vn (show m≤200 by omega) (show m≤200 by omega)
  have hmn:m*n≤40000:=Vn (show m≤200 by omega) (show n≤200 by omega)
  have hnn:n*n≤40000:=Vn (show n≤200 by omega) (show n≤200 by omega)
  have hk5:∀ k,k<5→∃ (r c L cap:Nat) (A:Option Addr) (Nk:aj),cs[0+k*3]?=some (nv r)∧cs[0+k*3+1]?=some (nv c)∧cs[0+k*3+2]?=some (.slice A L cap)∧aN Nk (.slice A L cap) L ((fJ S).getD k [])∧HSub Nk M∧L≤40000:=fun k hk=>by
   rw[hcs,hMM]
   rcases(show k=0∨k=1∨k=2∨k=3∨k=4 by omega)with rfl|rfl|rfl|rfl|rfl
   ·exact⟨_,_,_,_,_,_,rfl,rfl,rfl,bG,HSub.dJ,hmm⟩
   ·exact⟨_,_,_,_,_,_,rfl,rfl,rfl,hO2,Qf HSub.dJ,hmm⟩
   ·exact⟨_,_,_,_,_,_,rfl,rfl,rfl,hO3,Qf (Qf HSub.dJ),hmn⟩
   ·exact⟨_,_,_,_,_,_,rfl,rfl,rfl,hO4,Qf (Qf (Qf HSub.dJ)),hnn⟩
   ·exact⟨_,_,_,_,_,_,rfl,rfl,rfl,iy,Qf (Qf (Qf (Qf (HSub.refl _)))),hnn⟩
  refine Qn (ι:=Nat × Value × aj) ⟨fun z=>[(53,nv z.1),(52,nv 5),(51,.slice (some ⟨jA,0,none⟩) 5 5),(3,z.2.1),(0,.pointer (some ⟨b,0,none⟩))],fun z=>(jA,.cells cs 28)::(z.2.2++(M++aK b W m n t s T)),
   fun z=>z.1≤5∧fU z.2.2 z.2.1 (dw m n t s S z.1),fun z=>5-z.1⟩ (0,v3,N) ⟨by omega,hO⟩ aC (by rw[hcs,hMM];exact HSub.at 0 rfl (HSub.skip (Y5 (Q54 _ N _)))) (fun z hz=>?_)
  clear hO bG hO2 hO3 hO4 iy hcs hMM
  obtain⟨k,v3,N⟩:=z
  obtain⟨hk,hO⟩:=hz
  dsimp only at hk hO ⊢
  by_cases hlt:k<5
  ·obtain⟨r,c,L,cap,A,Nk,h1,h2,h3,hOk,hNk,hL⟩:=hk5 k hlt
   have hLl:=hOk.len
   have hbk:∀ x∈(fJ S).getD k [],x.natAbs<256 ^ K:=fun x hx=>hbd x (by
    rw[← Xi]
    unfold dw
    refine List.mem_append_right _ (List.mem_flatten.2 ⟨_,?_,hx⟩)
    rw[show (fJ S).take 5=fJ S from rfl]
    exact QV (show k<(fJ S).length from hlt))
   repeat' first|apply jS|apply jO|apply jN|apply jT|(refine Qg (h1:=?_) (h2:=?_)<;>intro hc<;>try omega)|apply jK|refine Q5 rfl ?_|apply jB
   refine Zh (o:=0) (j:=k) rfl rfl rfl (fun _=>rfl) rfl hlt ?_
   skip
   refine QB 0 rfl rfl rfl rfl rfl h1 h2 h3 ?_
   repeat' first|apply jS|apply jO|apply jN|apply jT|refine Q1 ?_|refine Q2 ?_|refine Q7 ?_|refine Zt (h:=?_)|refine Q6 ?_|refine Qh fun _=>?_|refine Q6 ?_|apply jB
   have hAl:(dw m n t s S k).length+L≤1000000:=by
    have h5:(dw m n t s S (k+1)).length≤(encZ m n t s S).length:=by
     rw[← Xi, ← YH m n t s S k hlt]
     rcases(show k=0∨k=1∨k=2∨k=3∨k=4 by omega)with rfl|rfl|rfl|rfl|rfl<;>simp[dw,fJ]<;>omega
    rw[← YH m n t s S k hlt,Vi]at h5
    omega
   refine Qn (ι:=Nat × Value × aj) ⟨fun z=>[(60,nv z.1),(59,nv L),(58,.slice A L cap),(53,nv k),(52,nv 5),(51,.slice (some ⟨jA,0,none⟩) 5 5),(3,z.2.1),(0,.pointer (some ⟨b,0,none⟩))],fun z=>(jA,.cells cs 28)::(z.2.2++(M++aK b W m n t s T)),
    fun z=>z.1≤L∧fU z.2.2 z.2.1 (dw m n t s S k++((fJ S).getD k []).take z.1),fun z=>L-z.1⟩ (0,v3,N) ⟨by omega,by rw[List.take_zero,Vh];exact hO⟩ aC (HSub.skip (HSub.refl _)) (fun z hz=>?_)
   clear hO
   obtain⟨c1,v3,N⟩:=z
   obtain⟨hc1,hO⟩:=hz
   dsimp only at hc1 hO ⊢
   by_cases hlt2:c1<L
   ·repeat' first|apply jS|apply jO|apply jN|apply jT|refine QY (h:=?_)|(refine Qg (h1:=?_) (h2:=?_)<;>intro hc<;>try omega)|apply jK|refine Q5 rfl ?_|apply jB
    refine Y4 rfl rfl rfl rfl hOk.rd (hNk.trans (HSub.skip (Qf HSub.dJ))) hlt2 ?_
    repeat' first|apply jO|apply jN|refine Q1 ?_|refine Qm ?_|refine Q6 ?_|refine Qh fun _=>?_|refine Q6 ?_|apply jT
    refine Q9 au rfl aF rfl (fun w _ _=>Qg5 w _ (((fJ S).getD k []).getD c1 0) K (QC (hbk _ (QV oq))) oq) fun w v w' _ _ _ hR=>?_
    subst hR
    repeat' first|refine QH (h:=fun _=>?_)|fail
    rename_i b10 b67
    refine Q10 (A:=[_,_,_]) (B:=M++aK b W m n t s T) hO (Q1u b67 (sv (tx (((fJ S).getD k []).getD c1 0)))).rd Qb rfl au rfl rfl rfl rfl (by rw[Vi,List.length_take];omega) (fun v' N' aX=>?_)
    rw[Vb, ← Q6c oq]at aX
    repeat' first|apply jO|apply jN|apply jT|refine Q1 ?_|refine Q0 ?_|refine Qd ?_|apply jW
    exact Q8 (c1+1,v',N') ⟨by dsimp only;omega,aX⟩ aW aC (HSub.skip (HSub.skip (HSub.refl _)))
   ·obtain rfl:c1=L:=by omega
    rw[Vd oq,YH m n t s S k hlt]at hO
    repeat' first|apply jS|apply jO|apply jN|apply jT|refine Q1 ?_|refine Qd ?_|(refine Qg (h1:=?_) (h2:=?_)<;>intro hc<;>try omega)|apply jU|apply jE|refine Q4 rfl ?_|apply jW|apply Qc
    exact Q8 (k+1,v3,N) ⟨by dsimp only;omega,hO⟩ aW aC (HSub.refl _)
  ·obtain rfl:k=5:=by omega
   rw[Xi]at hO
   repeat' first|apply jS|apply jO|apply jN|apply jT|refine Q1 ?_|(refine Qg (h1:=?_) (h2:=?_)<;>intro hc<;>try omega)|apply jU|apply jE|refine Q4 rfl ?_|apply Qc
   refine Q9 au rfl aF rfl (fun w hk hs=>Qk2 w v3 _ (encZ m n t s S) ((aH.rd hO).at hk hs Qb) (by rw[hel];omega) (by rw[hel];omega) hlen) fun w v w' _ _ _ hR=>?_
   subst hR
   repeat' first|apply jN|apply jT|refine Q0 ?_|apply jR
   exact Qj rfl (fun a w' st=>⟨Z3 hs st.kp (fun p hp=>st.hs.blk p (by exact Vc _ (List.mem_append_right _ (List.mem_append_right _ hp)))),rfl⟩)


theorem Q2m:∀ (l:List UInt8) (c:UInt8) (out:List (List UInt8)) (x:List UInt8),spl l=out++[x]→spl (l++[c])=if c=32 then (out++[x])++[[]] else out++[x++[c]]
 | [], c, out, x, h => by
  have h:[[]]=out++[x]:=h
  cases out with
  | nil =>
   cases h
   show spl [c]=_
   unfold spl
   split<;>rfl
  | cons o out =>
   have:=congrArg List.length h
   simp at this
 | d :: l, c, out, x, h => by
  show spl (d::(l++[c]))=_
  by_cases hd:d=32
  ·subst hd
   rw[Qjc]at h ⊢
   cases out with
   | nil =>
    have:=Q7a l
    simp at h
    exact absurd h.2 this
   | cons o out =>
    simp only[Vg,List.cons.injEq]at h
    obtain⟨rfl,h⟩:=h
    rw[Q2m l c out x h]
    split<;>rfl
  ·cases hs:spl l with
   | nil=>exact absurd hs (Q7a l)
   | cons y r =>
    rw[XK hd hs]at h
    cases out with
    | nil =>
     simp only[Vr,List.cons.injEq]at h
     obtain⟨rfl,rfl⟩:=h
     have h2:=Q2m l c [] y hs
     by_cases hc:c=32
     ·rw[if_pos hc]at h2 ⊢
      exact XK hd h2
     ·rw[if_neg hc]at h2 ⊢
      exact XK hd h2
    | cons o out =>
     simp only[Vg,List.cons.injEq]at h
     obtain⟨rfl,rfl⟩:=h
     have h2:=Q2m l c (y::out) x hs
     by_cases hc:c=32
     ·rw[if_pos hc]at h2 ⊢
      exact XK hd h2
     ·rw[if_neg hc]at h2 ⊢
      exact XK hd h2
theorem Qie {s:List UInt8} {i k:Nat} (hi:i≤k) (hk:k<s.length):(s.drop i).take (k+1-i)=(s.drop i).take (k-i)++[s[k]]:=by
 rw[show k+1-i=(k-i)+1 by omega,List.take_add_one,List.getElem?_drop,show i+(k-i)=k by omega,List.getElem?_eq_getElem hk]
 rfl
section
variable {c:Cx} {Q:Exit→Act→World→Prop} {m:Mode} {F:ak} {H:aj} {r:List bT} {g:Option (Option Tmp × Bool)} {ns:Bool} {d:Tmp} {ty t:TypeId} {x y:Operand} {l:List UInt8} {N:aj} {v:Value}
theorem Qji {k k':IntKind} {i j:Nat} {lo hi:Operand} [dL c.P t] (hd:Qw c.n (some d)=true) (hg:Qi F g=some true) (hx:ev F x=some (sv l)) (hy:ev F lo=some (.int k i)) (hz:ev F hi=some (.int k' j)) (hij:i≤j) (hj:j≤l.length)
  (h:JO c Q m r ((d,sv ((l.drop i).take (j-i)))::F) H):JO c Q m (⟨some d,.slice t x (some lo) (some hi) none,ty,g,.bg,ns⟩::r) F H :=
 ZE hd hg (fun a w fr=>by
  have h1:(0:Int)≤i:=by omega
  have h2:(i:Int)≤(j:Int):=by omega
  have h3:(0:Int)≤j:=by omega
  have h4:(j:Int)≤(l.length:Int):=by omega
  have e:(Instr.slice t (sv l) (some (.int k i)) (some (.int k' j)) none).run c.P w=.ok (sv ((l.drop i).take (j-i))) w:=by
   refine(run_slice_string w t ⟨l.toArray⟩ k k' i j (dL.und (P:=c.P)) h1 h2 (by simp only[Xn];exact h4)).trans ?_
   simp only[Int.toNat_natCast,ByteArray.extract_mk]
  simp only[execOp,fr.ev hx,Option.map_some,Option.map_none,fr.ev hy,fr.ev hz,Sem.run_bind,run_sliceAt_string w t _ _ _ _ (dL.und (P:=c.P)),e,Result.andThen_ok,Sem.run_pure]) h
theorem Q7l {A B N2:aj} {v2:Value} {l:List (List UInt8)} {z:List UInt8} [dh c.P t 9] [TE c.P 9 1 16 #[.string ⟨#[]⟩]] (hO:OwnW N v l) (h2:Rd c N2 1 v2 1 [sv z]) (eH:HSub N2 H) (hH:H=A++(N++B)) (hm:m.aO ns r) (hd:Qw c.n (some d)=true) (hg:Qi F g=some true) (hx:ev F x=some v) (hy:ev F y=some v2)
  (hb:l.length+1≤1000000000) (h:∀ v' N',OwnW N' v' (l++[z])→JO c Q m.spent r ((d,v')::F) (A++(N'++B))) :
  JO c Q m (⟨some d,.call ⟨.builtin .append,#[x,y],#[t,t]⟩,ty,g,.seq,ns⟩::r) F H :=
 X6 (e:=9) (sz:=1) (bytes:=16) (zc:=#[.string ⟨#[]⟩]) (n:=l.length) (mm:=1) rfl hO h2 eH hH hm hd hg hx hy (fun w hw=>by cases List.mem_singleton.1 hw;rfl) (by simp only[maxLen];omega) oq (fun v' N' h'=>h v' N' (by unfold OwnW;simpa using h'))
end

theorem Qfq (w:World) (s:List UInt8) (hl:s.length≤100000000) :
  Calls Tryz.prog 80 #[sv s] w (aQ fun v w'=>Kp [] w w'∧∃ N,New N w w'∧OwnW N v (spl s)):=by
 refine Qa [] [] aA [] Tryz.func80 rfl mixed (by kernel_rfl) Tryz.ntmps80 Tryz.results80 rfl ⟨by simp,by simp⟩ aA ?_
 simp only[toS,Qe,Qx,Qo,Qr,ay,Ql,Qy,aB]
 repeat' first|apply jS|apply jO|apply jN|apply jT|refine Q0 ?_|apply jB
 refine Qn (ι:=Nat × Nat × List (List UInt8) × aj × Value) ⟨fun z=>[(5,nv z.1),(4,nv z.2.1),(3,z.2.2.2.2),(2,.slice none 0 0),(0,sv s)],fun z=>z.2.2.2.1++[],
  fun z=>z.1≤s.length+1∧z.2.1≤z.1∧z.2.2.1.length≤z.1∧OwnW z.2.2.2.1 z.2.2.2.2 z.2.2.1∧(z.1≤s.length→spl (s.take z.1)=z.2.2.1++[(s.drop z.2.1).take (z.1-z.2.1)])∧(s.length<z.1→z.2.2.1=spl s),fun z=>s.length+1-z.1⟩ (0,0,[],[],.slice none 0 0) ⟨by omega,V7 _,V7 _,aH.nil _ _,fun _=>rfl,fun h=>by dsimp only at h;omega⟩ aC (HSub.refl _) (fun z hz=>?_)
 obtain⟨k,i,out,N,v⟩:=z
 obtain⟨hk,hi,hol,hO,h1,h2⟩:=hz
 dsimp only at hk hi hol hO h1 h2 ⊢
 by_cases hlt:k≤s.length
 ·have h1:=h1 hlt
  by_cases he:k=s.length
  ·subst he
   rw[List.take_length]at h1
   repeat' first|apply jS|apply jO|apply jN|apply jT|refine Q1 ?_|refine Qp ?_|refine Zu (h:=?_)|(refine Xo (h1:=?_) (h2:=?_)<;>intro hc<;>try omega)|(refine Zm (h1:=?_) (h2:=?_)<;>intro hc<;>try omega)|apply jK|refine Q5 rfl ?_|refine QA ?_|apply jB
   all_goals first
    | (exfalso;omega)
    | skip
   refine Qji rfl rfl rfl rfl rfl hi (V7 _) ?_
   repeat' first|refine QH (h:=fun _=>?_)|fail
   rename_i b27
   refine Q7l (A:=[_]) (B:=[]) hO (Q1u b27 (sv ((s.drop i).take (s.length-i)))).rd Qb rfl au rfl rfl rfl rfl oq (fun v' N' aX=>?_)
   repeat' first|apply jO|apply jN|apply jT|refine Q1 ?_|refine Q0 ?_|refine Qd ?_|apply jW
   exact Q8 (s.length+1,s.length+1,out++[(s.drop i).take (s.length-i)],N',v') ⟨by dsimp only;omega,by dsimp only;omega,by dsimp only;rw[Vi,Vo];omega,aX,fun h=>by dsimp only at h;omega,fun _=>h1.symm⟩ aW aC (HSub.skip (HSub.refl _))
  ·have hks:k<s.length:=by omega
   have hew:=Qie (s:=s) hi hks
   have htk:s.take (k+1)=s.take k++[s[k]]:=by rw[List.take_add_one,List.getElem?_eq_getElem hks];rfl
   have hsn:=Q2m _ s[k] _ _ h1
   rw[← htk]at hsn
   have hb:(bf s).getD k 0=s[k].toNat:=by
    unfold bf
    rw[List.getD,List.getElem?_map,List.getElem?_eq_getElem hks]
    rfl
   by_cases hc:s[k]=32
   ·have hb2:(bf s).getD k 0=32:=by rw[hb,hc];rfl
    rw[if_pos hc]at hsn
    repeat' first|apply jS|apply jO|apply jN|apply jT|refine Q1 ?_|refine Qq ?_|refine Zu (h:=?_)|refine YG (h:=?_)|(refine Xo (h1:=?_) (h2:=?_)<;>intro hc<;>try omega)|(refine Zm (h1:=?_) (h2:=?_)<;>intro hc<;>try omega)|apply jK|refine Q5 rfl ?_|apply jB
    all_goals first
     | (exfalso;omega)
     | skip
    refine Qji rfl rfl rfl rfl rfl hi oq ?_
    repeat' first|refine QH (h:=fun _=>?_)|fail
    rename_i b27
    refine Q7l (A:=[_]) (B:=[]) hO (Q1u b27 (sv ((s.drop i).take (k-i)))).rd Qb rfl au rfl rfl rfl rfl oq (fun v' N' aX=>?_)
    repeat' first|apply jO|apply jN|apply jT|refine Q1 ?_|refine Q0 ?_|refine Qd ?_|apply jW
    exact Q8 (k+1,k+1,out++[(s.drop i).take (k-i)],N',v') ⟨by dsimp only;omega,by dsimp only;omega,by dsimp only;rw[Vi,Vo];omega,aX,fun _=>by dsimp only;rw[hsn,Nat.sub_self,List.take_zero],fun h=>by dsimp only at h;omega⟩ aW aC (HSub.skip (HSub.refl _))
   ·have hb2:(bf s).getD k 0≠32:=fun h=>hc (UInt8.toNat_inj.1 (by rw[← hb,h];rfl))
    rw[if_neg hc, ← hew]at hsn
    repeat' first|apply jS|apply jO|apply jN|apply jT|refine Q1 ?_|refine Q0 ?_|refine Qd ?_|refine Qq ?_|refine Zu (h:=?_)|refine YG (h:=?_)|(refine Xo (h1:=?_) (h2:=?_)<;>intro hc<;>try omega)|(refine Zm (h1:=?_) (h2:=?_)<;>intro hc<;>try omega)|apply jK|refine Q5 rfl ?_|refine Q4 rfl ?_|apply jB|apply jW
    all_goals first
     | (exfalso;omega)
     | skip
    exact Q8 (k+1,i,out,N,v) ⟨by dsimp only;omega,by dsimp only;omega,by dsimp only;omega,hO,fun _=>hsn,fun h=>by dsimp only at h;omega⟩ aW aC (HSub.refl _)
 ·repeat' first|apply jS|apply jO|apply jN|apply jT|refine Q1 ?_|refine Q0 ?_|refine Zu (h:=?_)|(refine Xo (h1:=?_) (h2:=?_)<;>intro hc<;>try omega)|apply jU|apply jE|apply jR|refine Q4 rfl ?_|apply Qc
  have h2:=h2 oq
  subst h2
  exact Qj rfl (fun a w' st=>⟨st.kp,N,st.bI rfl (by simpa using HSub.refl _),hO⟩)


theorem Qeg {neg:Bool} {t:List UInt8} (h:∀ c∈t,digit c=true):(if t.all digit then Value.tuple #[Wv (bC neg (eP t)),.bool (decide (t≠[]))] else .tuple #[Wv 0,.bool false])=.tuple #[Wv (bC neg (eP t)),.bool (decide (t≠[]))]:=if_pos (List.all_eq_true.2 h)
theorem Qeh {neg:Bool} {t:List UInt8} {i:Nat} (hi:i<t.length) (h:digit t[i]=false):(if t.all digit then Value.tuple #[Wv (bC neg (eP t)),.bool (decide (t≠[]))] else .tuple #[Wv 0,.bool false])=.tuple #[Wv 0,.bool false]:=if_neg fun e=>by
 have:=List.all_eq_true.1 e t[i] (List.getElem_mem hi)
 rw[h]at this
 cases this

theorem Qiq (w:World) (l:List UInt8) (hl:l.length≤10000000) :
  Calls Tryz.prog 81 #[sv l] w (aQ fun v w'=>Kp [] w w'∧v=PRes l):=by
 cases l with
 | nil =>
  have h0:((([]:List UInt8).length:Nat):Int)=0:=rfl
  show Calls _ _ _ _ (aQ fun v w'=>Kp [] w w'∧v=.tuple #[Wv 0,.bool false])
  refine YZ [11] [] [] aA [] Tryz.func81 rfl mixed (by kernel_rfl) Tryz.ntmps81 Tryz.results81 rfl ⟨by simp,by simp⟩ aA ?_
  simp only[toR,inR,cond_true,cond_false,Nat.reduceBEq,toS,Qe,Qx,Qo,Qr,ay,Ql,Qy,aB]
  repeat' first|apply jS|apply jO|apply jN|apply jT|refine Q1 ?_|refine Q0 ?_|refine Qq ?_|refine Zu (h:=?_)|(refine QU (h1:=?_) (h2:=?_)<;>intro hc<;>try omega)|refine Qh fun _=>?_|apply jK|refine Q4 rfl ?_|refine QA ?_|apply jB
  rename_i b2
  refine Qn (ι:=Nat) ⟨fun z=>[(7,nv z),(6,.slice none 0 0),(5,sv []),(4,.bool false),(2,.pointer (some ⟨b2,0,none⟩))],fun _=>[(b2,.cells #[.bool false,.string ⟨#[]⟩] 75 (0,0))],fun z=>z=0,fun z=>z⟩ 0 rfl aC QF (fun i hi=>?_)
  dsimp only at hi ⊢
  subst hi
  repeat' first|apply jS|apply jO|apply jN|apply jT|refine Q1 ?_|refine Zu (h:=?_)|(refine Qg (h1:=?_) (h2:=?_)<;>intro hc<;>try omega)|apply jU|apply jE|refine Q4 rfl ?_|apply Qc
  refine Q9 trivial rfl rfl rfl (fun w hk hs=>ZS w _ 0 [] false (bH.nil.rd.at hk hs (HSub.nil _)) (fun _ h=>absurd h List.not_mem_nil) dq) fun w v w' _ _ _ hR=>?_
  subst hR
  repeat' first|apply jN|apply jT|refine Q1 ?_|refine Q0 ?_|refine Q6 ?_|refine Qa6 (h:=?_)|refine Q6 ?_|apply jR
  exact Zg 0 rfl rfl rfl rfl (fun a w' st=>⟨st.kp,rfl⟩)
 | cons b l' =>
  have h2:(((b::l').length:Nat):Int)=l'.length+1:=by simp
  by_cases hb:b=45
  ·subst hb
   have h45:UInt8.toNat 45=45:=rfl
   have hlt:l'.length≤10000000:=by simp at hl;omega
   show Calls _ _ _ _ (aQ fun v w'=>Kp [] w w'∧v=if l'.all digit then .tuple #[Wv (bC true (eP l')),.bool (decide (l'≠[]))] else .tuple #[Wv 0,.bool false])
   refine YZ [11] [] [] aA [] Tryz.func81 rfl mixed (by kernel_rfl) Tryz.ntmps81 Tryz.results81 rfl ⟨by simp,by simp⟩ aA ?_
   simp only[toR,inR,cond_true,cond_false,Nat.reduceBEq,toS,Qe,Qx,Qo,Qr,ay,Ql,Qy,aB]
   repeat' first|apply jS|apply jO|apply jN|apply jT|refine Q1 ?_|refine Q0 ?_|refine Qp ?_|refine Zu (h:=?_)|refine Q0c (h:=?_)|refine Q5z (h:=?_)|(refine QU (h1:=?_) (h2:=?_)<;>intro hc<;>try omega)|(refine Zm (h1:=?_) (h2:=?_)<;>intro hc<;>try omega)|refine Qh fun _=>?_|refine Q5 rfl ?_|apply jB
   rename_i b2 h9
   generalize l'=t at hlt ⊢
   refine Qn (ι:=Nat × Value × aj × List Nat) ⟨fun z=>[(7,nv z.1),(6,z.2.1),(5,sv t),(4,.bool true),(2,.pointer (some ⟨b2,0,none⟩))],
    fun z=>(b2,.cells #[.bool false,.string ⟨#[]⟩] 75 (0,0))::(z.2.2.1++[]),
    fun z=>z.1≤t.length∧bH z.2.2.1 z.2.1 z.2.2.2.length z.2.2.2∧(∀ x∈z.2.2.2,x<aI)∧z.2.2.2.length≤3*z.1∧val aI z.2.2.2=eP (t.take z.1)∧∀ c∈t.take z.1,digit c=true,fun z=>t.length-z.1⟩
    (0,_,[],[]) ⟨V8 _,bH.nil,fun _ h=>absurd h List.not_mem_nil,V8 _,rfl,by simp⟩ aC QF (fun z hz=>?_)
   obtain⟨i,vx,N,zs⟩:=z
   obtain⟨hi,hO,hz,hzl,hval,hdig⟩:=hz
   dsimp only at hi hO hz hzl hval hdig ⊢
   by_cases hin:i<t.length
   ·have hb256:(bf t).getD i 0<256:=Q4g
    have hti:=Qbp hin
    by_cases hd:48≤(bf t).getD i 0∧(bf t).getD i 0≤57
    ·have hdi:digit t[i]=true:=(Yk _).2 (by rw[← hti];exact hd)
     have hd0:=hd.1
     have hd9:=hd.2
     repeat' first|apply jS|apply jO|apply jN|apply jT|refine Q1 ?_|refine Qq ?_|refine Zu (h:=?_)|refine YG (h:=?_)|(refine Qg (h1:=?_) (h2:=?_)<;>intro hc<;>try omega)|(refine QU (h1:=?_) (h2:=?_)<;>intro hc<;>try omega)|apply jK|refine Q5 rfl ?_|refine Q4 rfl ?_|apply jB
     refine Qbu [] (HSub.nil _) 1 7 (fun i op=>Qo [] i op) 11 11 [0,2,3,4,5,6,1,7,8,9,10] [0,2,3,4,5,6,7,1,8,9,10] dq mixed (by kernel_rfl) (by kernel_rfl) ?_ ?_
     ·repeat' first|refine Q1 ?_|refine YG (h:=?_)|fail
      refine Q3j rfl rfl rfl rfl oq ?_
      repeat' first|refine Yb (h:=?_)|fail
      refine Qt (A:=[_]) rfl au rfl rfl rfl (fun w hk hs=>c_by w _ _ zs 10 (hO.rd.at hk hs Qb) hz oq dq) fun w v w' _ _ _ hR=>?_
      obtain⟨N1,zs1,hN1,bG,hz1,aP,hl1⟩:=hR
      refine⟨N1,hN1,?_⟩
      repeat' first|refine QH (h:=fun _=>?_)|fail
      rename_i b7
      have hL:bH [(b7,.cells ⟨[nv ((bf t).getD i 0-48)]⟩ 3)] (.slice (some ⟨b7,0,none⟩) 1 1) 1 [(bf t).getD i 0-48]:=ZH b7 1 [(bf t).getD i 0-48] _ rfl rfl dq
      refine Q9 au rfl rfl rfl (fun w hk hs=>Q01 w _ _ _ _ (hL.rd.at hk hs Qb) dq) fun w v w' _ _ _ hR=>?_
      obtain⟨k3,hk3,rfl,hn3⟩:=hR
      have hO3:=hL.hd hk3
      rw[← hn3]at hO3
      skip
      refine Qt (A:=[_,_]) rfl au rfl rfl rfl (fun w hk hs=>Q5e w _ _ _ _ _ _ (bG.rd.at hk hs Qb) (hO3.rd.at hk hs Qb) hz1.lt (fun x hx=>by
       have:=Xq x hx
       rw[List.mem_singleton]at this
       rw[this]
       show _<65536
       omega) oq oq) fun w v w' _ _ _ hR=>?_
      obtain⟨N2,zs2,eH,hO2,hz2,aY,hl2⟩:=hR
      refine⟨N2,eH,?_⟩
      rw[Zo,aP,hval]at aY
      repeat' first|apply jO|apply jN|apply jT|refine Q1 ?_|refine Q0 ?_|refine Qd ?_|apply jW
      refine Q8 (i+1,_,N2,zs2) ⟨by dsimp only;omega,hO2,hz2,by dsimp only;omega,?_,?_⟩ aW aC QF
      ·dsimp only
       rw[aY,Wl hin,Va,val,val,Nat.mul_zero,Vp]
      ·dsimp only
       intro c hc
       rw[X1 hin]at hc
       rcases List.mem_append.1 hc with h|h
       ·exact hdig c h
       ·rw[List.mem_singleton.1 h];exact hdi
     ·repeat' first|refine Q1 ?_|refine YG (h:=?_)|fail
      refine Q3j rfl rfl rfl rfl oq ?_
      repeat' first|refine Yb (h:=?_)|refine QH (h:=fun _=>?_)|fail
      rename_i b7
      have hL:bH [(b7,.cells ⟨[nv ((bf t).getD i 0-48)]⟩ 3)] (.slice (some ⟨b7,0,none⟩) 1 1) 1 [(bf t).getD i 0-48]:=ZH b7 1 [(bf t).getD i 0-48] _ rfl rfl dq
      refine Qt (A:=[_,_]) rfl au rfl rfl rfl (fun w hk hs=>c_by w _ _ zs 10 (hO.rd.at hk hs Qb) hz oq dq) fun w v w' _ _ _ hR=>?_
      obtain⟨N1,zs1,hN1,bG,hz1,aP,hl1⟩:=hR
      refine⟨N1,hN1,?_⟩
      skip
      refine Q9 au rfl rfl rfl (fun w hk hs=>Q01 w _ _ _ _ (hL.rd.at hk hs Qb) dq) fun w v w' _ _ _ hR=>?_
      obtain⟨k3,hk3,rfl,hn3⟩:=hR
      have hO3:=hL.hd hk3
      rw[← hn3]at hO3
      skip
      refine Qt (A:=[_,_]) rfl au rfl rfl rfl (fun w hk hs=>Q5e w _ _ _ _ _ _ (bG.rd.at hk hs Qb) (hO3.rd.at hk hs Qb) hz1.lt (fun x hx=>by
       have:=Xq x hx
       rw[List.mem_singleton]at this
       rw[this]
       show _<65536
       omega) oq oq) fun w v w' _ _ _ hR=>?_
      obtain⟨N2,zs2,eH,hO2,hz2,aY,hl2⟩:=hR
      refine⟨N2,eH,?_⟩
      rw[Zo,aP,hval]at aY
      repeat' first|apply jO|apply jN|apply jT|refine Q1 ?_|refine Q0 ?_|refine Qd ?_|apply jW
      refine Q8 (i+1,_,N2,zs2) ⟨by dsimp only;omega,hO2,hz2,by dsimp only;omega,?_,?_⟩ aW aC QF
      ·dsimp only
       rw[aY,Wl hin,Va,val,val,Nat.mul_zero,Vp]
      ·dsimp only
       intro c hc
       rw[X1 hin]at hc
       rcases List.mem_append.1 hc with h|h
       ·exact hdig c h
       ·rw[List.mem_singleton.1 h];exact hdi
    ·have hdi:digit t[i]=false:=by
      cases hdg:digit t[i]with
      | false=>rfl
      | true=>exact absurd ((Yk _).1 hdg) (by rw[← hti];exact hd)
     rw[Qeh hin hdi]
     by_cases hd0:48≤(bf t).getD i 0
     ·have hd9:¬(bf t).getD i 0≤57:=fun h=>hd ⟨hd0,h⟩
      repeat' first|apply jS|apply jO|apply jN|apply jT|refine Q1 ?_|refine Q0 ?_|refine Qq ?_|refine Q6 ?_|refine Zu (h:=?_)|refine YG (h:=?_)|(refine Qg (h1:=?_) (h2:=?_)<;>intro hc<;>try omega)|(refine QU (h1:=?_) (h2:=?_)<;>intro hc<;>try omega)|refine ZU (h:=?_)|refine Q6 ?_|apply jV|apply jK|apply jR|refine Q5 rfl ?_|apply jB|apply Qz
      exact Zg 0 rfl rfl rfl rfl (fun a w' st=>⟨st.kp,rfl⟩)
     ·repeat' first|apply jS|apply jO|apply jN|apply jT|refine Q1 ?_|refine Q0 ?_|refine Qp ?_|refine Q6 ?_|refine Zu (h:=?_)|refine YG (h:=?_)|(refine Qg (h1:=?_) (h2:=?_)<;>intro hc<;>try omega)|refine ZU (h:=?_)|refine Q6 ?_|apply jV|apply jK|apply jR|refine Q5 rfl ?_|apply Qz|refine QA ?_|apply jB
      exact Zg 0 rfl rfl rfl rfl (fun a w' st=>⟨st.kp,rfl⟩)
   ·obtain rfl:i=t.length:=by omega
    rw[Vd (V7 _)]at hval hdig
    rw[Qeg hdig]
    rcases t with _|⟨q,t'⟩
    ·repeat' first|apply jS|apply jO|apply jN|apply jT|refine Q1 ?_|refine Zu (h:=?_)|(refine Qg (h1:=?_) (h2:=?_)<;>intro hc<;>try omega)|apply jU|apply jE|refine Q4 rfl ?_|apply Qc
     refine Q9 trivial rfl rfl rfl (fun w hk hs=>ZS w _ _ zs true (hO.rd.at hk hs Qb) hz oq) fun w v w' _ _ _ hR=>?_
     rw[hval]at hR
     subst hR
     repeat' first|apply jN|apply jT|refine Q1 ?_|refine Q0 ?_|refine Q6 ?_|refine Qa6 (h:=?_)|refine Q6 ?_|apply jR
     exact Zg 0 rfl rfl rfl rfl (fun a w' st=>⟨st.kp,rfl⟩)
    ·repeat' first|apply jS|apply jO|apply jN|apply jT|refine Q1 ?_|refine Zu (h:=?_)|(refine Qg (h1:=?_) (h2:=?_)<;>intro hc<;>try omega)|apply jU|apply jE|refine Q4 rfl ?_|apply Qc
     refine Q9 trivial rfl rfl rfl (fun w hk hs=>ZS w _ _ zs true (hO.rd.at hk hs Qb) hz oq) fun w v w' _ _ _ hR=>?_
     rw[hval]at hR
     subst hR
     repeat' first|apply jN|apply jT|refine Q1 ?_|refine Q0 ?_|refine Q6 ?_|refine Qe4 (h:=?_)|refine Q6 ?_|apply jR
     exact Zg 0 rfl rfl rfl rfl (fun a w' st=>⟨st.kp,rfl⟩)
  ·have h45:¬UInt8.toNat b=45:=fun e=>hb (UInt8.toNat.inj e)
   have hlt:=hl
   have hpr:PRes (b::l')=if (b::l').all digit then .tuple #[Wv (bC false (eP (b::l'))),.bool (decide (b::l'≠[]))] else .tuple #[Wv 0,.bool false]:=by
    have hm:(b == 45)=false:=by simpa using hb
    unfold PRes
    simp only[minus,body,hm,Bool.false_eq_true,if_false]
   rw[hpr]
   clear hpr
   refine YZ [11] [] [] aA [] Tryz.func81 rfl mixed (by kernel_rfl) Tryz.ntmps81 Tryz.results81 rfl ⟨by simp,by simp⟩ aA ?_
   simp only[toR,inR,cond_true,cond_false,Nat.reduceBEq,toS,Qe,Qx,Qo,Qr,ay,Ql,Qy,aB]
   repeat' first|apply jS|apply jO|apply jN|apply jT|refine Q1 ?_|refine Q0 ?_|refine Qp ?_|refine Zu (h:=?_)|refine Q0c (h:=?_)|(refine QU (h1:=?_) (h2:=?_)<;>intro hc<;>try omega)|(refine Zm (h1:=?_) (h2:=?_)<;>intro hc<;>try omega)|refine Qh fun _=>?_|apply jK|refine Q4 rfl ?_|apply jB
   rename_i b2 h9
   generalize b::l'=t at hlt ⊢
   refine Qn (ι:=Nat × Value × aj × List Nat) ⟨fun z=>[(7,nv z.1),(6,z.2.1),(5,sv t),(4,.bool false),(2,.pointer (some ⟨b2,0,none⟩))],
    fun z=>(b2,.cells #[.bool false,.string ⟨#[]⟩] 75 (0,0))::(z.2.2.1++[]),
    fun z=>z.1≤t.length∧bH z.2.2.1 z.2.1 z.2.2.2.length z.2.2.2∧(∀ x∈z.2.2.2,x<aI)∧z.2.2.2.length≤3*z.1∧val aI z.2.2.2=eP (t.take z.1)∧∀ c∈t.take z.1,digit c=true,fun z=>t.length-z.1⟩
    (0,_,[],[]) ⟨V8 _,bH.nil,fun _ h=>absurd h List.not_mem_nil,V8 _,rfl,by simp⟩ aC QF (fun z hz=>?_)
   obtain⟨i,vx,N,zs⟩:=z
   obtain⟨hi,hO,hz,hzl,hval,hdig⟩:=hz
   dsimp only at hi hO hz hzl hval hdig ⊢
   by_cases hin:i<t.length
   ·have hb256:(bf t).getD i 0<256:=Q4g
    have hti:=Qbp hin
    by_cases hd:48≤(bf t).getD i 0∧(bf t).getD i 0≤57
    ·have hdi:digit t[i]=true:=(Yk _).2 (by rw[← hti];exact hd)
     have hd0:=hd.1
     have hd9:=hd.2
     repeat' first|apply jS|apply jO|apply jN|apply jT|refine Q1 ?_|refine Qq ?_|refine Zu (h:=?_)|refine YG (h:=?_)|(refine Qg (h1:=?_) (h2:=?_)<;>intro hc<;>try omega)|(refine QU (h1:=?_) (h2:=?_)<;>intro hc<;>try omega)|apply jK|refine Q5 rfl ?_|refine Q4 rfl ?_|apply jB
     refine Qbu [] (HSub.nil _) 1 7 (fun i op=>Qo [] i op) 11 11 [0,2,3,4,5,6,1,7,8,9,10] [0,2,3,4,5,6,7,1,8,9,10] dq mixed (by kernel_rfl) (by kernel_rfl) ?_ ?_
     ·repeat' first|refine Q1 ?_|refine YG (h:=?_)|fail
      refine Q3j rfl rfl rfl rfl oq ?_
      repeat' first|refine Yb (h:=?_)|fail
      refine Qt (A:=[_]) rfl au rfl rfl rfl (fun w hk hs=>c_by w _ _ zs 10 (hO.rd.at hk hs Qb) hz oq dq) fun w v w' _ _ _ hR=>?_
      obtain⟨N1,zs1,hN1,bG,hz1,aP,hl1⟩:=hR
      refine⟨N1,hN1,?_⟩
      repeat' first|refine QH (h:=fun _=>?_)|fail
      rename_i b7
      have hL:bH [(b7,.cells ⟨[nv ((bf t).getD i 0-48)]⟩ 3)] (.slice (some ⟨b7,0,none⟩) 1 1) 1 [(bf t).getD i 0-48]:=ZH b7 1 [(bf t).getD i 0-48] _ rfl rfl dq
      refine Q9 au rfl rfl rfl (fun w hk hs=>Q01 w _ _ _ _ (hL.rd.at hk hs Qb) dq) fun w v w' _ _ _ hR=>?_
      obtain⟨k3,hk3,rfl,hn3⟩:=hR
      have hO3:=hL.hd hk3
      rw[← hn3]at hO3
      skip
      refine Qt (A:=[_,_]) rfl au rfl rfl rfl (fun w hk hs=>Q5e w _ _ _ _ _ _ (bG.rd.at hk hs Qb) (hO3.rd.at hk hs Qb) hz1.lt (fun x hx=>by
       have:=Xq x hx
       rw[List.mem_singleton]at this
       rw[this]
       show _<65536
       omega) oq oq) fun w v w' _ _ _ hR=>?_
      obtain⟨N2,zs2,eH,hO2,hz2,aY,hl2⟩:=hR
      refine⟨N2,eH,?_⟩
      rw[Zo,aP,hval]at aY
      repeat' first|apply jO|apply jN|apply jT|refine Q1 ?_|refine Q0 ?_|refine Qd ?_|apply jW
      refine Q8 (i+1,_,N2,zs2) ⟨by dsimp only;omega,hO2,hz2,by dsimp only;omega,?_,?_⟩ aW aC QF
      ·dsimp only
       rw[aY,Wl hin,Va,val,val,Nat.mul_zero,Vp]
      ·dsimp only
       intro c hc
       rw[X1 hin]at hc
       rcases List.mem_append.1 hc with h|h
       ·exact hdig c h
       ·rw[List.mem_singleton.1 h];exact hdi
     ·repeat' first|refine Q1 ?_|refine YG (h:=?_)|fail
      refine Q3j rfl rfl rfl rfl oq ?_
      repeat' first|refine Yb (h:=?_)|refine QH (h:=fun _=>?_)|fail
      rename_i b7
      have hL:bH [(b7,.cells ⟨[nv ((bf t).getD i 0-48)]⟩ 3)] (.slice (some ⟨b7,0,none⟩) 1 1) 1 [(bf t).getD i 0-48]:=ZH b7 1 [(bf t).getD i 0-48] _ rfl rfl dq
      refine Qt (A:=[_,_]) rfl au rfl rfl rfl (fun w hk hs=>c_by w _ _ zs 10 (hO.rd.at hk hs Qb) hz oq dq) fun w v w' _ _ _ hR=>?_
      obtain⟨N1,zs1,hN1,bG,hz1,aP,hl1⟩:=hR
      refine⟨N1,hN1,?_⟩
      skip
      refine Q9 au rfl rfl rfl (fun w hk hs=>Q01 w _ _ _ _ (hL.rd.at hk hs Qb) dq) fun w v w' _ _ _ hR=>?_
      obtain⟨k3,hk3,rfl,hn3⟩:=hR
      have hO3:=hL.hd hk3
      rw[← hn3]at hO3
      skip
      refine Qt (A:=[_,_]) rfl au rfl rfl rfl (fun w hk hs=>Q5e w _ _ _ _ _ _ (bG.rd.at hk hs Qb) (hO3.rd.at hk hs Qb) hz1.lt (fun x hx=>by
       have:=Xq x hx
       rw[List.mem_singleton]at this
       rw[this]
       show _<65536
       omega) oq oq) fun w v w' _ _ _ hR=>?_
      obtain⟨N2,zs2,eH,hO2,hz2,aY,hl2⟩:=hR
      refine⟨N2,eH,?_⟩
      rw[Zo,aP,hval]at aY
      repeat' first|apply jO|apply jN|apply jT|refine Q1 ?_|refine Q0 ?_|refine Qd ?_|apply jW
      refine Q8 (i+1,_,N2,zs2) ⟨by dsimp only;omega,hO2,hz2,by dsimp only;omega,?_,?_⟩ aW aC QF
      ·dsimp only
       rw[aY,Wl hin,Va,val,val,Nat.mul_zero,Vp]
      ·dsimp only
       intro c hc
       rw[X1 hin]at hc
       rcases List.mem_append.1 hc with h|h
       ·exact hdig c h
       ·rw[List.mem_singleton.1 h];exact hdi
    ·have hdi:digit t[i]=false:=by
      cases hdg:digit t[i]with
      | false=>rfl
      | true=>exact absurd ((Yk _).1 hdg) (by rw[← hti];exact hd)
     rw[Qeh hin hdi]
     by_cases hd0:48≤(bf t).getD i 0
     ·have hd9:¬(bf t).getD i 0≤57:=fun h=>hd ⟨hd0,h⟩
      repeat' first|apply jS|apply jO|apply jN|apply jT|refine Q1 ?_|refine Q0 ?_|refine Qq ?_|refine Q6 ?_|refine Zu (h:=?_)|refine YG (h:=?_)|(refine Qg (h1:=?_) (h2:=?_)<;>intro hc<;>try omega)|(refine QU (h1:=?_) (h2:=?_)<;>intro hc<;>try omega)|refine ZU (h:=?_)|refine Q6 ?_|apply jV|apply jK|apply jR|refine Q5 rfl ?_|apply jB|apply Qz
      exact Zg 0 rfl rfl rfl rfl (fun a w' st=>⟨st.kp,rfl⟩)
     ·repeat' first|apply jS|apply jO|apply jN|apply jT|refine Q1 ?_|refine Q0 ?_|refine Qp ?_|refine Q6 ?_|refine Zu (h:=?_)|refine YG (h:=?_)|(refine Qg (h1:=?_) (h2:=?_)<;>intro hc<;>try omega)|refine ZU (h:=?_)|refine Q6 ?_|apply jV|apply jK|apply jR|refine Q5 rfl ?_|apply Qz|refine QA ?_|apply jB
      exact Zg 0 rfl rfl rfl rfl (fun a w' st=>⟨st.kp,rfl⟩)
   ·obtain rfl:i=t.length:=by omega
    rw[Vd (V7 _)]at hval hdig
    rw[Qeg hdig]
    rcases t with _|⟨q,t'⟩
    ·repeat' first|apply jS|apply jO|apply jN|apply jT|refine Q1 ?_|refine Zu (h:=?_)|(refine Qg (h1:=?_) (h2:=?_)<;>intro hc<;>try omega)|apply jU|apply jE|refine Q4 rfl ?_|apply Qc
     refine Q9 trivial rfl rfl rfl (fun w hk hs=>ZS w _ _ zs false (hO.rd.at hk hs Qb) hz oq) fun w v w' _ _ _ hR=>?_
     rw[hval]at hR
     subst hR
     repeat' first|apply jN|apply jT|refine Q1 ?_|refine Q0 ?_|refine Q6 ?_|refine Qa6 (h:=?_)|refine Q6 ?_|apply jR
     exact Zg 0 rfl rfl rfl rfl (fun a w' st=>⟨st.kp,rfl⟩)
    ·repeat' first|apply jS|apply jO|apply jN|apply jT|refine Q1 ?_|refine Zu (h:=?_)|(refine Qg (h1:=?_) (h2:=?_)<;>intro hc<;>try omega)|apply jU|apply jE|refine Q4 rfl ?_|apply Qc
     refine Q9 trivial rfl rfl rfl (fun w hk hs=>ZS w _ _ zs false (hO.rd.at hk hs Qb) hz oq) fun w v w' _ _ _ hR=>?_
     rw[hval]at hR
     subst hR
     repeat' first|apply jN|apply jT|refine Q1 ?_|refine Q0 ?_|refine Q6 ?_|refine Qe4 (h:=?_)|refine Q6 ?_|apply jR
     exact Zg 0 rfl rfl rfl rfl (fun a w' st=>⟨st.kp,rfl⟩)


structure Win (Q:aj→List Int→Prop) (v:Value) (n:Nat):Prop where
 rd:∀ {c:Cx} {N:aj} {xs:List Int},Q N xs→fH c N v n xs
 st:∀ {N:aj} {xs:List Int} {i:Nat},Q N xs→i<n→∃ (A B N0:aj) (v0:Value) (n0 o:Nat) (zs:List Int),N=A++(N0++B)∧aN N0 v0 n0 zs∧o+i<n0∧dK v0 ((o+i)*2)=dK v (i*2)∧∀ N0' u,aN N0' v0 n0 (zs.set (o+i) u)→Q (A++(N0'++B)) (xs.set i u)
def Qcs (Q:aj→List Int→Prop) (N:aj) (r c:Nat) (G:Mi) (w w':World):Prop:=Kp (keys N) w w'∧∃ N',InW N' w'∧Q N' (bP r c G)
section
variable {c:Cx} {Q':Exit→Act→World→Prop} {m:Mode} {F:ak} {H:aj} {r:List bT} {g:Option (Option Tmp × Bool)} {ns:Bool} {d:Tmp} {ty t t':TypeId} {x y:Operand}
theorem Qc5 {Q:aj→List Int→Prop} {v:Value} {n:Nat} {N A B:aj} {i:Nat} {u:Int} {xs:List Int} [TN c.P t 2] (hw:Win Q v n) (hO:Q N xs) (hH:H=A++(N++B)) (hg:Qi F g=some true) (hm:m.aO ns r) (hx:ev F x=some (.pointer (some (dK v (i*2))))) (hy:ev F y=some (Wv u))
  (hi:i<n) (h:∀ N',Q N' (xs.set i u)→JO c Q' m.spent r F (A++(N'++B))):JO c Q' m (⟨none,.store t x y,ty,g,.seq,ns⟩::r) F H:=by
 obtain⟨A1,B1,N0,v0,n0,o,zs,rfl,h0,h1,h2,h3⟩:=hw.st hO hi
 subst hH
 refine Q0a (A:=A++A1) (B:=B1++B) (i:=o+i) h0 (by simp only[Vb]) hg hm (by rw[h2];exact hx) hy h1 (fun N' h'=>?_)
 have:=h _ (h3 N' u h')
 simpa only[Vb] using this
end

theorem Xu (K L:Nat) (w:World) (A0:Option Addr) (cap:Nat) (Q:aj→List Int→Prop) (N:aj) (r c i k:Nat) (f:Int) (G:Mi) (hw:Win Q (.slice A0 (r*c) cap) (r*c)) (hO:Q N (bP r c G)) (hs:aG N w) (hi:i<r) (hk:k<r) (hr:r≤200) (hc:c≤200) (hK:K+L≤8000000000) (hf:f.natAbs<256 ^ L) (hb:∀ a b,a<r→b<c→(G a b).natAbs<256 ^ K) :
  Calls Tryz.prog 134 #[.agg #[nv r,nv c,.slice A0 (r*c) cap],nv i,nv k,Wv f] w (aQ fun _ w'=>Qcs Q N r c (fun a b=>if a=i∧b<c then G i b+f*G k b else G a b) w w'):=by
 have hM:=QK hs
 have hrc:r*c≤40000:=Vn hr hc
 refine Qa [⟨4,2,[],[]⟩] (keys N) hM N Tryz.func134 rfl mixed (by kernel_rfl) Tryz.ntmps134 Tryz.results134 rfl hs (fun p hp=>List.mem_map.2 ⟨p,hp,rfl⟩) ?_
 simp only[toS,Qe,Qx,Qo,Qr,ay,Ql,Qy,aB]
 repeat' first|apply jS|apply jO|apply jN|apply jT|refine Q0 ?_|refine QM (h:=fun _=>?_)|apply jB
 rename_i b4 b7
 have h0:Q N (bP r c (fun a b=>if a=i∧b<0 then G i b+f*G k b else G a b)):=by rw[Qk (g':=G) (fun a b _ _=>if_neg oq)];exact hO
 refine Qn (ι:=Nat × aj) ⟨fun z=>[(8,nv z.1),(7,.pointer (some ⟨b7,0,none⟩)),(4,.pointer (some ⟨b4,0,none⟩)),(1,nv i),(2,nv k)],fun z=>[(b7,.cells (wc f) 75),(b4,.cells #[nv r,nv c,.slice A0 (r*c) cap] 28)]++(z.2++[]),
  fun z=>z.1≤c∧Q z.2 (bP r c (fun a b=>if a=i∧b<z.1 then G i b+f*G k b else G a b)),fun z=>c-z.1⟩ (0,N) ⟨V8 _,h0⟩ aC (by simp only[Vh];exact HSub.refl _) (fun z hz=>?_)
 obtain⟨z,N1⟩:=z
 obtain⟨hz,bG⟩:=hz
 dsimp only at hz bG ⊢
 have hRd:fH ⟨Tryz.prog,47,w,keys N,hM⟩ N1 _ _ _:=hw.rd bG
 by_cases hlt:z<c
 ·have l1:i*c+z<r*c:=Yn hi hlt
  have l2:k*c+z<r*c:=Yn hk hlt
  have m1:i*c≤40000:=V0 (V1 c (show i≤r by omega)) hrc
  have m2:k*c≤40000:=V0 (V1 c (show k≤r by omega)) hrc
  have e1:(bP r c (fun a b=>if a=i∧b<z then G i b+f*G k b else G a b)).getD (i*c+z) 0=G i z:=by rw[Zz hi hlt,if_neg oq]
  have e2:(bP r c (fun a b=>if a=i∧b<z then G i b+f*G k b else G a b)).getD (k*c+z) 0=G k z:=by rw[Zz hk hlt,if_neg oq]
  repeat' first|apply jS|apply jO|apply jD|apply jN|apply jT|refine Q1 ?_|refine Q2 ?_|refine Q7 ?_|refine Qm ?_|refine QY (h:=?_)|refine Y4 (h:=?_)|refine Z8 (h:=?_)|refine Z1 (h:=?_)|(refine Qg (h1:=?_) (h2:=?_)<;>intro hc<;>try omega)|apply jK|refine Q5 rfl ?_|apply jB
  rw[e2]
  refine Q9 au rfl aF rfl (fun w _ _=>Q8g w _ _ f (G k z) (K+L) (QC (Z2 hf oq)) (QC (Z2 (hb k z hk hlt) oq)) oq) fun w v w' _ _ _ hR=>?_
  subst hR
  skip
  rw[e1]
  refine Q9 au rfl aF rfl (fun w _ _=>Q5f w _ _ (G i z) (f*G k z) (L+K) (QC (Z2 (hb i z hi hlt) oq)) (QC (W9 hf (hb k z hk hlt))) oq) fun w v w' _ _ _ hR=>?_
  subst hR
  repeat' first|refine QY (h:=?_)|fail
  refine Qc5 hw (A:=[_,_]) (B:=[]) bG rfl rfl au rfl rfl l1 (fun N2 hO2=>?_)
  rw[Y3 hlt]at hO2
  rw[Qk (g':=fun a b=>if a=i∧b<(z+1) then G i b+f*G k b else G a b) (fun a b _ _=>by
   by_cases h1:a=i∧b=z
   ·obtain⟨rfl,rfl⟩:=h1;rw[if_pos ⟨rfl,rfl⟩,if_pos ⟨rfl,by omega⟩]
   ·rw[if_neg h1]
    by_cases h2:a=i∧b<z
    ·rw[if_pos h2,if_pos oq]
    ·rw[if_neg h2,if_neg oq])]at hO2
  repeat' first|apply jO|apply jN|apply jT|refine Q1 ?_|refine Q0 ?_|refine Qd ?_|apply jW
  exact Q8 (z+1,N2) ⟨by dsimp only;omega,hO2⟩ aW aC (HSub.refl _)
 ·repeat' first|apply jS|apply jO|apply jN|apply jT|refine Q1 ?_|refine Q2 ?_|refine Q7 ?_|(refine Qg (h1:=?_) (h2:=?_)<;>intro hc<;>try omega)|apply jU|apply jE|refine Q4 rfl ?_|apply Qc
  obtain rfl:z=c:=by omega
  exact Ze (fun a w' st=>⟨st.kp,N1,fun p hp=>st.hs.blk p (List.mem_append_right _ (List.mem_append_left _ hp)),bG⟩)

theorem Wt (K L:Nat) (w:World) (A0:Option Addr) (cap:Nat) (Q:aj→List Int→Prop) (N:aj) (r c i k:Nat) (f:Int) (G:Mi) (hw:Win Q (.slice A0 (r*c) cap) (r*c)) (hO:Q N (bP r c G)) (hs:aG N w) (hi:i<c) (hk:k<c) (hr:r≤200) (hc:c≤200) (hK:K+L≤8000000000) (hf:f.natAbs<256 ^ L) (hb:∀ a b,a<r→b<c→(G a b).natAbs<256 ^ K) :
  Calls Tryz.prog 135 #[.agg #[nv r,nv c,.slice A0 (r*c) cap],nv i,nv k,Wv f] w (aQ fun _ w'=>Qcs Q N r c (fun a b=>if b=i∧a<r then G a i+f*G a k else G a b) w w'):=by
 have hM:=QK hs
 have hrc:r*c≤40000:=Vn hr hc
 refine Qa [⟨4,2,[],[]⟩] (keys N) hM N Tryz.func135 rfl mixed (by kernel_rfl) Tryz.ntmps135 Tryz.results135 rfl hs (fun p hp=>List.mem_map.2 ⟨p,hp,rfl⟩) ?_
 simp only[toS,Qe,Qx,Qo,Qr,ay,Ql,Qy,aB]
 repeat' first|apply jS|apply jO|apply jN|apply jT|refine Q0 ?_|refine QM (h:=fun _=>?_)|apply jB
 rename_i b4 b7
 have h0:Q N (bP r c (fun a b=>if b=i∧a<0 then G a i+f*G a k else G a b)):=by rw[Qk (g':=G) (fun a b _ _=>if_neg oq)];exact hO
 refine Qn (ι:=Nat × aj) ⟨fun z=>[(8,nv z.1),(7,.pointer (some ⟨b7,0,none⟩)),(4,.pointer (some ⟨b4,0,none⟩)),(1,nv i),(2,nv k)],fun z=>[(b7,.cells (wc f) 75),(b4,.cells #[nv r,nv c,.slice A0 (r*c) cap] 28)]++(z.2++[]),
  fun z=>z.1≤r∧Q z.2 (bP r c (fun a b=>if b=i∧a<z.1 then G a i+f*G a k else G a b)),fun z=>r-z.1⟩ (0,N) ⟨V8 _,h0⟩ aC (by simp only[Vh];exact HSub.refl _) (fun z hz=>?_)
 obtain⟨z,N1⟩:=z
 obtain⟨hz,bG⟩:=hz
 dsimp only at hz bG ⊢
 have hRd:fH ⟨Tryz.prog,47,w,keys N,hM⟩ N1 _ _ _:=hw.rd bG
 by_cases hlt:z<r
 ·have l1:z*c+i<r*c:=Yn hlt hi
  have l2:z*c+k<r*c:=Yn hlt hk
  have m1:z*c≤40000:=V0 (V1 c (show z≤r by omega)) hrc
  have e1:(bP r c (fun a b=>if b=i∧a<z then G a i+f*G a k else G a b)).getD (z*c+i) 0=G z i:=by rw[Zz hlt hi,if_neg oq]
  have e2:(bP r c (fun a b=>if b=i∧a<z then G a i+f*G a k else G a b)).getD (z*c+k) 0=G z k:=by rw[Zz hlt hk,if_neg oq]
  repeat' first|apply jS|apply jO|apply jD|apply jN|apply jT|refine Q1 ?_|refine Q2 ?_|refine Q7 ?_|refine Qm ?_|refine QY (h:=?_)|refine Y4 (h:=?_)|refine Z8 (h:=?_)|refine Z1 (h:=?_)|(refine Qg (h1:=?_) (h2:=?_)<;>intro hc<;>try omega)|apply jK|refine Q5 rfl ?_|apply jB
  rw[e2]
  refine Q9 au rfl aF rfl (fun w _ _=>Q8g w _ _ f (G z k) (K+L) (QC (Z2 hf oq)) (QC (Z2 (hb z k hlt hk) oq)) oq) fun w v w' _ _ _ hR=>?_
  subst hR
  skip
  rw[e1]
  refine Q9 au rfl aF rfl (fun w _ _=>Q5f w _ _ (G z i) (f*G z k) (L+K) (QC (Z2 (hb z i hlt hi) oq)) (QC (W9 hf (hb z k hlt hk))) oq) fun w v w' _ _ _ hR=>?_
  subst hR
  repeat' first|refine QY (h:=?_)|fail
  refine Qc5 hw (A:=[_,_]) (B:=[]) bG rfl rfl au rfl rfl l1 (fun N2 hO2=>?_)
  rw[Y3 hi]at hO2
  rw[Qk (g':=fun a b=>if b=i∧a<(z+1) then G a i+f*G a k else G a b) (fun a b _ _=>by
   by_cases h1:a=z∧b=i
   ·obtain⟨rfl,rfl⟩:=h1;rw[if_pos ⟨rfl,rfl⟩,if_pos ⟨rfl,by omega⟩]
   ·rw[if_neg h1]
    by_cases h2:b=i∧a<z
    ·rw[if_pos h2,if_pos oq]
    ·rw[if_neg h2,if_neg oq])]at hO2
  repeat' first|apply jO|apply jN|apply jT|refine Q1 ?_|refine Q0 ?_|refine Qd ?_|apply jW
  exact Q8 (z+1,N2) ⟨by dsimp only;omega,hO2⟩ aW aC (HSub.refl _)
 ·repeat' first|apply jS|apply jO|apply jN|apply jT|refine Q1 ?_|refine Q2 ?_|refine Q7 ?_|(refine Qg (h1:=?_) (h2:=?_)<;>intro hc<;>try omega)|apply jU|apply jE|refine Q4 rfl ?_|apply Qc
  obtain rfl:z=r:=by omega
  exact Ze (fun a w' st=>⟨st.kp,N1,fun p hp=>st.hs.blk p (List.mem_append_right _ (List.mem_append_left _ hp)),bG⟩)

theorem Yo (w:World) (A0:Option Addr) (cap:Nat) (Q:aj→List Int→Prop) (N:aj) (r c i k:Nat) (G:Mi) (hw:Win Q (.slice A0 (r*c) cap) (r*c)) (hO:Q N (bP r c G)) (hs:aG N w) (hi:i<r) (hk:k<r) (hr:r≤200) (hc:c≤200) :
  Calls Tryz.prog 129 #[.agg #[nv r,nv c,.slice A0 (r*c) cap],nv i,nv k] w (aQ fun _ w'=>Qcs Q N r c (fun a b=>if a=k∧b<c then G i b else if a=i∧b<c then G k b else G a b) w w'):=by
 have hM:=QK hs
 have hrc:r*c≤40000:=Vn hr hc
 refine Qa [⟨5,2,[],[]⟩] (keys N) hM N Tryz.func129 rfl mixed (by kernel_rfl) Tryz.ntmps129 Tryz.results129 rfl hs (fun p hp=>List.mem_map.2 ⟨p,hp,rfl⟩) ?_
 simp only[toS,Qe,Qx,Qo,Qr,ay,Ql,Qy,aB]
 repeat' first|apply jS|apply jO|apply jN|apply jT|refine Q0 ?_|refine QM (h:=fun _=>?_)|apply jB
 rename_i b3
 have h0:Q N (bP r c (fun a b=>if a=k∧b<0 then G i b else if a=i∧b<0 then G k b else G a b)):=by rw[Qk (g':=G) (fun a b _ _=>by rw[if_neg oq,if_neg oq])];exact hO
 refine Qn (ι:=Nat × aj) ⟨fun z=>[(6,nv z.1),(3,.pointer (some ⟨b3,0,none⟩)),(1,nv i),(2,nv k)],fun z=>[(b3,.cells #[nv r,nv c,.slice A0 (r*c) cap] 28)]++(z.2++[]),
  fun z=>z.1≤c∧Q z.2 (bP r c (fun a b=>if a=k∧b<z.1 then G i b else if a=i∧b<z.1 then G k b else G a b)),fun z=>c-z.1⟩ (0,N) ⟨V8 _,h0⟩ aC (by simp only[Vh];exact HSub.refl _) (fun z hz=>?_)
 obtain⟨z,N1⟩:=z
 obtain⟨hz,bG⟩:=hz
 dsimp only at hz bG ⊢
 have hRd:fH ⟨Tryz.prog,53,w,keys N,hM⟩ N1 _ _ _:=hw.rd bG
 by_cases hlt:z<c
 ·have l1:i*c+z<r*c:=Yn hi hlt
  have l2:k*c+z<r*c:=Yn hk hlt
  have m1:i*c≤40000:=V0 (V1 c (show i≤r by omega)) hrc
  have m2:k*c≤40000:=V0 (V1 c (show k≤r by omega)) hrc
  have e1:(bP r c (fun a b=>if a=k∧b<z then G i b else if a=i∧b<z then G k b else G a b)).getD (i*c+z) 0=G i z:=by rw[Zz hi hlt,if_neg oq,if_neg oq]
  have e2:(bP r c (fun a b=>if a=k∧b<z then G i b else if a=i∧b<z then G k b else G a b)).getD (k*c+z) 0=G k z:=by rw[Zz hk hlt,if_neg oq,if_neg oq]
  repeat' first|apply jS|apply jO|apply jD|apply jN|apply jT|refine Q1 ?_|refine Q2 ?_|refine Q7 ?_|refine QY (h:=?_)|refine Y4 (h:=?_)|refine Z8 (h:=?_)|refine Z1 (h:=?_)|refine Q6 ?_|(refine Qg (h1:=?_) (h2:=?_)<;>intro hc<;>try omega)|refine Qh fun _=>?_|refine Q6 ?_|apply jK|refine Q5 rfl ?_|apply jB
  rename_i bx
  rw[e1,e2]
  refine Qc5 hw (A:=[_,_]) (B:=[]) bG rfl rfl au rfl rfl l1 (fun N2 hO2=>?_)
  rw[Y3 hlt]at hO2
  repeat' first|apply jO|apply jN|refine Q1 ?_|refine Q2 ?_|refine Q7 ?_|refine Qm ?_|refine QY (h:=?_)|refine Z8 (h:=?_)|refine Z1 (h:=?_)|apply jT
  refine Qc5 hw (A:=[_,_]) (B:=[]) (u:=G i z) hO2 rfl rfl au rfl rfl l2 (fun N3 hO3=>?_)
  rw[Y3 hlt]at hO3
  rw[Qk (g':=fun a b=>if a=k∧b<(z+1) then G i b else if a=i∧b<(z+1) then G k b else G a b) (fun a b _ _=>by
   by_cases h1:a=k∧b=z
   ·obtain⟨rfl,rfl⟩:=h1;rw[if_pos ⟨rfl,rfl⟩,if_pos ⟨rfl,by omega⟩]
   ·rw[if_neg h1]
    by_cases h2:a=i∧b=z
    ·obtain⟨rfl,rfl⟩:=h2;rw[if_pos ⟨rfl,rfl⟩,if_neg oq,if_pos ⟨rfl,by omega⟩]
    ·rw[if_neg h2]
     by_cases h3:a=k∧b<z
     ·rw[if_pos h3,if_pos oq]
     ·rw[if_neg h3]
      by_cases h4:a=i∧b<z
      ·rw[if_pos h4,if_neg oq,if_pos oq]
      ·rw[if_neg h4,if_neg oq,if_neg oq])]at hO3
  repeat' first|apply jO|apply jN|apply jT|refine Q1 ?_|refine Q0 ?_|refine Qd ?_|apply jW
  exact Q8 (z+1,N3) ⟨by dsimp only;omega,hO3⟩ aW aC (by exact HSub.skip (HSub.refl _))
 ·repeat' first|apply jS|apply jO|apply jN|apply jT|refine Q1 ?_|refine Q2 ?_|refine Q7 ?_|(refine Qg (h1:=?_) (h2:=?_)<;>intro hc<;>try omega)|apply jU|apply jE|refine Q4 rfl ?_|apply Qc
  obtain rfl:z=c:=by omega
  exact Ze (fun a w' st=>⟨st.kp,N1,fun p hp=>st.hs.blk p (List.mem_append_right _ (List.mem_append_left _ hp)),bG⟩)

theorem Yp (w:World) (A0:Option Addr) (cap:Nat) (Q:aj→List Int→Prop) (N:aj) (r c i k:Nat) (G:Mi) (hw:Win Q (.slice A0 (r*c) cap) (r*c)) (hO:Q N (bP r c G)) (hs:aG N w) (hi:i<c) (hk:k<c) (hr:r≤200) (hc:c≤200) :
  Calls Tryz.prog 130 #[.agg #[nv r,nv c,.slice A0 (r*c) cap],nv i,nv k] w (aQ fun _ w'=>Qcs Q N r c (fun a b=>if b=k∧a<r then G a i else if b=i∧a<r then G a k else G a b) w w'):=by
 have hM:=QK hs
 have hrc:r*c≤40000:=Vn hr hc
 refine Qa [⟨5,2,[],[]⟩] (keys N) hM N Tryz.func130 rfl mixed (by kernel_rfl) Tryz.ntmps130 Tryz.results130 rfl hs (fun p hp=>List.mem_map.2 ⟨p,hp,rfl⟩) ?_
 simp only[toS,Qe,Qx,Qo,Qr,ay,Ql,Qy,aB]
 repeat' first|apply jS|apply jO|apply jN|apply jT|refine Q0 ?_|refine QM (h:=fun _=>?_)|apply jB
 rename_i b3
 have h0:Q N (bP r c (fun a b=>if b=k∧a<0 then G a i else if b=i∧a<0 then G a k else G a b)):=by rw[Qk (g':=G) (fun a b _ _=>by rw[if_neg oq,if_neg oq])];exact hO
 refine Qn (ι:=Nat × aj) ⟨fun z=>[(6,nv z.1),(3,.pointer (some ⟨b3,0,none⟩)),(1,nv i),(2,nv k)],fun z=>[(b3,.cells #[nv r,nv c,.slice A0 (r*c) cap] 28)]++(z.2++[]),
  fun z=>z.1≤r∧Q z.2 (bP r c (fun a b=>if b=k∧a<z.1 then G a i else if b=i∧a<z.1 then G a k else G a b)),fun z=>r-z.1⟩ (0,N) ⟨V8 _,h0⟩ aC (by simp only[Vh];exact HSub.refl _) (fun z hz=>?_)
 obtain⟨z,N1⟩:=z
 obtain⟨hz,bG⟩:=hz
 dsimp only at hz bG ⊢
 have hRd:fH ⟨Tryz.prog,53,w,keys N,hM⟩ N1 _ _ _:=hw.rd bG
 by_cases hlt:z<r
 ·have l1:z*c+i<r*c:=Yn hlt hi
  have l2:z*c+k<r*c:=Yn hlt hk
  have m1:z*c≤40000:=V0 (V1 c (show z≤r by omega)) hrc
  have e1:(bP r c (fun a b=>if b=k∧a<z then G a i else if b=i∧a<z then G a k else G a b)).getD (z*c+i) 0=G z i:=by rw[Zz hlt hi,if_neg oq,if_neg oq]
  have e2:(bP r c (fun a b=>if b=k∧a<z then G a i else if b=i∧a<z then G a k else G a b)).getD (z*c+k) 0=G z k:=by rw[Zz hlt hk,if_neg oq,if_neg oq]
  repeat' first|apply jS|apply jO|apply jD|apply jN|apply jT|refine Q1 ?_|refine Q2 ?_|refine Q7 ?_|refine QY (h:=?_)|refine Y4 (h:=?_)|refine Z8 (h:=?_)|refine Z1 (h:=?_)|refine Q6 ?_|(refine Qg (h1:=?_) (h2:=?_)<;>intro hc<;>try omega)|refine Qh fun _=>?_|refine Q6 ?_|apply jK|refine Q5 rfl ?_|apply jB
  rename_i bx
  rw[e1,e2]
  refine Qc5 hw (A:=[_,_]) (B:=[]) bG rfl rfl au rfl rfl l1 (fun N2 hO2=>?_)
  rw[Y3 hi]at hO2
  repeat' first|apply jO|apply jN|refine Q1 ?_|refine Q2 ?_|refine Q7 ?_|refine Qm ?_|refine QY (h:=?_)|refine Z8 (h:=?_)|refine Z1 (h:=?_)|apply jT
  refine Qc5 hw (A:=[_,_]) (B:=[]) (u:=G z i) hO2 rfl rfl au rfl rfl l2 (fun N3 hO3=>?_)
  rw[Y3 hk]at hO3
  rw[Qk (g':=fun a b=>if b=k∧a<(z+1) then G a i else if b=i∧a<(z+1) then G a k else G a b) (fun a b _ _=>by
   by_cases h1:a=z∧b=k
   ·obtain⟨rfl,rfl⟩:=h1;rw[if_pos ⟨rfl,rfl⟩,if_pos ⟨rfl,by omega⟩]
   ·rw[if_neg h1]
    by_cases h2:a=z∧b=i
    ·obtain⟨rfl,rfl⟩:=h2;rw[if_pos ⟨rfl,rfl⟩,if_neg oq,if_pos ⟨rfl,by omega⟩]
    ·rw[if_neg h2]
     by_cases h3:b=k∧a<z
     ·rw[if_pos h3,if_pos oq]
     ·rw[if_neg h3]
      by_cases h4:b=i∧a<z
      ·rw[if_pos h4,if_neg oq,if_pos oq]
      ·rw[if_neg h4,if_neg oq,if_neg oq])]at hO3
  repeat' first|apply jO|apply jN|apply jT|refine Q1 ?_|refine Q0 ?_|refine Qd ?_|apply jW
  exact Q8 (z+1,N3) ⟨by dsimp only;omega,hO3⟩ aW aC (by exact HSub.skip (HSub.refl _))
 ·repeat' first|apply jS|apply jO|apply jN|apply jT|refine Q1 ?_|refine Q2 ?_|refine Q7 ?_|(refine Qg (h1:=?_) (h2:=?_)<;>intro hc<;>try omega)|apply jU|apply jE|refine Q4 rfl ?_|apply Qc
  obtain rfl:z=r:=by omega
  exact Ze (fun a w' st=>⟨st.kp,N1,fun p hp=>st.hs.blk p (List.mem_append_right _ (List.mem_append_left _ hp)),bG⟩)


structure FW where
 A:Option Addr
 c:Nat
structure JW where
 u:FW
 ui:FW
 d:FW
 v:FW
 vi:FW
 N:aj
 Q:aj→List Int→List Int→List Int→List Int→List Int→Prop
def JW.pu (J:JW) (b c d e:List Int):aj→List Int→Prop:=fun N x=>J.Q N x b c d e
def JW.pui (J:JW) (a c d e:List Int):aj→List Int→Prop:=fun N x=>J.Q N a x c d e
def JW.pd (J:JW) (a b d e:List Int):aj→List Int→Prop:=fun N x=>J.Q N a b x d e
def JW.pv (J:JW) (a b c e:List Int):aj→List Int→Prop:=fun N x=>J.Q N a b c x e
def JW.pvi (J:JW) (a b c d:List Int):aj→List Int→Prop:=fun N x=>J.Q N a b c d x
def iq (J:JW) (m n:Nat) (t s:Int):Array Value:=#[nv m,nv m,.slice J.u.A (m*m) J.u.c,nv m,nv m,.slice J.ui.A (m*m) J.ui.c,nv m,nv n,.slice J.d.A (m*n) J.d.c,nv n,nv n,.slice J.v.A (n*n) J.v.c,nv n,nv n,.slice J.vi.A (n*n) J.vi.c,iv t,iv s]
def bJ (b:Nat) (J:JW) (m n:Nat) (t s:Int):aj:=(b,.cells (iq J m n t s) 72)::(J.N++[])
structure jm (J:JW) (m n:Nat) (S:Sm):Prop where
 o:J.Q J.N (bP m m (gE S.u)) (bP m m (gE S.ui)) (bP m n (gE S.d)) (bP n n (gE S.v)) (bP n n (gE S.vi))
 wu:∀ b c d e,Win (J.pu b c d e) (.slice J.u.A (m*m) J.u.c) (m*m)
 wui:∀ b c d e,Win (J.pui b c d e) (.slice J.ui.A (m*m) J.ui.c) (m*m)
 wd:∀ b c d e,Win (J.pd b c d e) (.slice J.d.A (m*n) J.d.c) (m*n)
 wv:∀ b c d e,Win (J.pv b c d e) (.slice J.v.A (n*n) J.v.c) (n*n)
 wvi:∀ b c d e,Win (J.pvi b c d e) (.slice J.vi.A (n*n) J.vi.c) (n*n)
 ky:∀ {N N':aj} {a b c d e a' b' c' d' e':List Int},J.Q N a b c d e→J.Q N' a' b' c' d' e'→keys N'=keys N
def fZ (J J':JW):Prop:=∃ N,J'={ J with N:=N }
theorem fZ.refl (J:JW):fZ J J:=⟨J.N,rfl⟩
theorem fZ.trans {J J' J'':JW} (h:fZ J J') (k:fZ J' J''):fZ J J'':=by
 obtain⟨N,rfl⟩:=h
 obtain⟨N',rfl⟩:=k
 exact⟨N',rfl⟩
theorem jm.turn {J:JW} {m n:Nat} {S S':Sm} {N:aj} (hJ:jm J m n S) (h:J.Q N (bP m m (gE S'.u)) (bP m m (gE S'.ui)) (bP m n (gE S'.d)) (bP n n (gE S'.v)) (bP n n (gE S'.vi))):jm { J with N:=N } m n S' :=
 ⟨h,hJ.wu,hJ.wui,hJ.wd,hJ.wv,hJ.wvi,hJ.ky⟩
theorem Q0e {b m n:Nat} {J:JW} {t s t' s':Int} {N:aj} (h:keys N=keys J.N):keys (bJ b { J with N:=N } m n t' s')=keys (bJ b J m n t s):=by
 unfold bJ keys at *
 simp only[List.map_cons,Vj,h]
def JwR (b:Nat) (J:JW) (m n:Nat) (t s t' s':Int) (S':Sm) (w w':World):Prop :=
 Kp (keys (bJ b J m n t s)) w w'∧∃ J',keys (bJ b J' m n t' s')=keys (bJ b J m n t s)∧InW (bJ b J' m n t' s') w'∧jm J' m n S'∧fZ J J'
theorem JwR.same {b:Nat} {J:JW} {m n:Nat} {t s:Int} {S:Sm} (h:jm J m n S) {w w':World} (h1:Kp (keys (bJ b J m n t s)) w w') (h2:∀ p∈bJ b J m n t s,w'.heap[p.1]?=some p.2):JwR b J m n t s t s S w w' :=
 ⟨h1,J,rfl,h2,h,fZ.refl J⟩

section
variable {c:Cx} {Q':Exit→Act→World→Prop} {m:Mode} {F:ak} {H:aj} {r:List bT} {g:Option (Option Tmp × Bool)} {ns:Bool} {ty:TypeId}
theorem ZN {A N B:aj} {f:FuncId} {args:Array Operand} {ats:Array TypeId} {vs:List Value} {dd:Option Tmp} {Q:aj→List Int→Prop} {rr cc:Nat} {G:Mi} [TF c.P f] (hH:H=A++(N++B)) (hm:m.aO ns r) (hd:Qw c.n dd=true) (hg:Qi F g=some true) (ha:Zy F args.toList=some vs)
  (hc:∀ w,aG N w→Calls c.P f vs.toArray w (aQ fun _ w'=>Qcs Q N rr cc G w w')) (hky:∀ N',Q N' (bP rr cc G)→keys N'=keys N)
  (h:∀ u N',Q N' (bP rr cc G)→JO c Q' m.spent r (dN F dd u) (A++(N'++B))) :
  JO c Q' m (⟨dd,.call ⟨.value (.func f),args,ats⟩,ty,g,.seq,ns⟩::r) F H :=
 XN (A:=A) (N:=N) (B:=B) hH hm hd hg ha (fun w _ hs=>hc w (HSub.aV (by rw[hH];exact(HSub.dJ.trans (Qf (HSub.refl _)))) hs)) (fun w u w' _ _ _ hR=>by
  obtain⟨N',hin,hO⟩:=hR
  exact⟨N',hky N' hO,hin,h u N' hO⟩)
theorem Qab {A N B Hs:aj} {f:FuncId} {args:Array Operand} {ats:Array TypeId} {vs:List Value} {dd:Option Tmp} {Q:aj→List Int→Prop} {rr cc:Nat} {G:Mi} [TF c.P f] (hH:H=A++(N++B)) (iV:HSub Hs (A++B)) (hd:Qw c.n dd=true) (hg:Qi F g=some true) (ha:Zy F args.toList=some vs)
  (hc:∀ w,aG N w→Calls c.P f vs.toArray w (aQ fun _ w'=>Qcs Q N rr cc G w w')) (hky:∀ N',Q N' (bP rr cc G)→keys N'=keys N)
  (h:∀ u N',Q N' (bP rr cc G)→JO c Q' (.draw Hs true) r (dN F dd u) (A++(N'++B))) :
  JO c Q' (.draw Hs true) (⟨dd,.call ⟨.value (.func f),args,ats⟩,ty,g,.seq,ns⟩::r) F H :=
 Qad (A:=A) (N:=N) (B:=B) hH iV hd hg ha (fun w _ hs=>hc w (HSub.aV (by rw[hH];exact(HSub.dJ.trans (Qf (HSub.refl _)))) hs)) (fun w u w' _ _ _ hR=>by
  obtain⟨N',hin,hO⟩:=hR
  exact⟨N',hky N' hO,hin,h u N' hO⟩)
end

theorem YO (w:World) (b:Nat) (J:JW) (m n t:Nat) (s:Int) (S:Sm) (i j:Nat) (hJ:jm J m n S) (hs:aG (bJ b J m n t s) w) (hi:i<m) (hj:j<n) (hm:m≤200) (hn:n≤200) :
  Calls Tryz.prog 90 #[.pointer (some ⟨b,0,none⟩),nv i,nv j] w (aQ fun v w'=>Kp [] w w'∧v=Wv (gE S.d i j)):=by
 have hM:=QK hs
 have hmn:m*n≤40000:=Vn hm hn
 have hin:i*n≤40000:=V0 (V1 n (show i≤m by omega)) hmn
 have hlt:=Yn hi hj
 refine Qa [⟨1,1,[],[]⟩] (keys (bJ b J m n t s)) hM (bJ b J m n t s) Tryz.func90 rfl mixed (by kernel_rfl) Tryz.ntmps90 Tryz.results90 rfl hs (fun p hp=>List.mem_map.2 ⟨p,hp,rfl⟩) ?_
 simp only[toS,Qe,Qx,Qo,Qr,ay,Ql,Qy,aB]
 have hd:fH ⟨Tryz.prog,23,w,keys (bJ b J m n t s),hM⟩ J.N _ _ _:=(hJ.wd _ _ _ _).rd hJ.o
 unfold bJ iq
 repeat' first|apply jS|apply jO|apply jD|apply jN|apply jT|refine Q1 ?_|refine Q2 ?_|refine Q7 ?_|refine QY (h:=?_)|refine Y4 (h:=?_)|refine Z8 (h:=?_)|refine Z1 (h:=?_)|refine Q3 ?_|refine Q6 ?_|refine Qh fun _=>?_|refine Q6 ?_|apply jR
 rw[Zz hi hj]
 exact Z0 0 rfl rfl rfl (fun a w' st=>⟨Z3 hs st.kp (fun p hp=>st.hs.blk p (Vc _ hp)),rfl⟩)

theorem Q74 (K:Nat) (w:World) (b:Nat) (J:JW) (m n t:Nat) (s:Int) (S:Sm) (hJ:jm J m n S) (hs:aG (bJ b J m n t s) w) (hm:m≤200) (hn:n≤200) (bD:t≤m) (htn:t≤n) (hK:K≤9000000000) (hb:gZ K S.d=true) :
  Calls Tryz.prog 128 #[.pointer (some ⟨b,0,none⟩)] w (aQ fun v w'=>Kp [] w w'∧v=.tuple #[iD (Qv S t m n),iM (Qv S t m n),.bool (Qv S t m n).2.2]):=by
 have hM:=QK hs
 refine Qa [] (keys (bJ b J m n t s)) hM (bJ b J m n t s) Tryz.func128 rfl mixed (by kernel_rfl) Tryz.ntmps128 Tryz.results128 rfl hs (fun p hp=>List.mem_map.2 ⟨p,hp,rfl⟩) ?_
 simp only[toS,Qe,Qx,Qo,Qr,ay,Ql,Qy,aB]
 unfold bJ iq
 repeat' first|apply jS|apply jO|apply jN|apply jT|refine Q1 ?_|refine Q2 ?_|refine Q0 ?_|refine Q7 ?_|refine Q3 ?_|apply jB
 refine Qn (ι:=Nat × Nat × Nat × Bool) ⟨fun z=>[(7,nv z.1),(5,iD z.2),(6,iM z.2),(2,iv 0),(3,iv 0),(4,.bool false),(0,.pointer (some ⟨b,0,none⟩))],fun _=>bJ b J m n t s,
  fun z=>t≤z.1∧z.1≤m∧(z.2.2.2=true→z.2.1<m∧z.2.2.1<n)∧Qv S t m n=(List.range' z.1 (m-z.1)).foldl (WH S t n) z.2,fun z=>m-z.1⟩ (t,0,0,false) ⟨V7 _,bD,fun h=>(by cases h),rfl⟩ aC (HSub.refl _) (fun z hz=>?_)
 obtain⟨i,x,y,fl⟩:=z
 obtain⟨hti,him,hin,hls⟩:=hz
 dsimp only at hti him hin hls ⊢
 unfold bJ iq
 by_cases hlt:i<m
 ·rw[QS hlt,List.foldl_cons]at hls
  repeat' first|apply jS|apply jO|apply jN|apply jT|refine Q1 ?_|refine Q2 ?_|refine Q0 ?_|refine Q7 ?_|refine Q3 ?_|(refine Qg (h1:=?_) (h2:=?_)<;>intro hc<;>try omega)|apply jK|refine Q5 rfl ?_|apply jB
  refine Qn (ι:=Nat × Nat × Nat × Bool) ⟨fun z=>[(8,nv z.1),(7,nv i),(5,iD z.2),(6,iM z.2),(2,iv 0),(3,iv 0),(4,.bool false),(0,.pointer (some ⟨b,0,none⟩))],fun _=>bJ b J m n t s,
   fun z=>t≤z.1∧z.1≤n∧(z.2.2.2=true→z.2.1<m∧z.2.2.1<n)∧Qv S t m n=(List.range' (i+1) (m-(i+1))).foldl (WH S t n) ((List.range' z.1 (n-z.1)).foldl (bY S i) z.2),fun z=>n-z.1⟩ (t,x,y,fl) ⟨V7 _,htn,hin,hls⟩ aC (HSub.refl _) (fun z hz=>?_)
  clear hls hin
  obtain⟨j,x,y,fl⟩:=z
  obtain⟨htj,hjn,hin,hls⟩:=hz
  dsimp only at htj hjn hin hls ⊢
  unfold bJ iq
  by_cases hjt:j<n
  ·rw[QS hjt,List.foldl_cons]at hls
   have hx:(gE S.d i j).natAbs<256 ^ K:=QT hb _ _
   repeat' first|apply jS|apply jO|apply jN|apply jT|refine Q1 ?_|refine Q2 ?_|refine Q7 ?_|refine Q3 ?_|(refine Qg (h1:=?_) (h2:=?_)<;>intro hc<;>try omega)|apply jK|refine Q5 rfl ?_|apply jB
   refine Q9 au rfl aF rfl (fun w _ hs=>YO w b J m n t s S i j hJ hs hlt hjt hm hn) fun w v w' _ _ _ hR=>?_
   subst hR
   repeat' first|apply jS|apply jD|apply jN|refine Q1 ?_|refine Q2 ?_|refine Q7 ?_|refine Q6 ?_|refine Ya (h:=?_)|refine Qh fun _=>?_|refine Q6 ?_|apply jT
   rename_i bx
   have hmg:decide (aS (gE S.d i j).natAbs≠[])=decide (gE S.d i j≠0):=decide_eq_decide.2 (not_congr (bF.trans Int.natAbs_eq_zero))
   rw[hmg]
   by_cases hz:gE S.d i j=0
   ·have h1:bY S i (x,y,fl) j=(x,y,fl):=by unfold bY;rw[if_neg (fun h=>h.1 hz)]
    rw[h1]at hls
    rw[show decide (gE S.d i j≠0)=false from decide_eq_false (fun h=>h hz)]
    repeat' first|apply jO|apply jN|apply jT|refine Q1 ?_|refine Q0 ?_|refine Qd ?_|refine Qq ?_|apply jK|refine Q4 rfl ?_|refine QA ?_|apply jW
    exact Q8 (j+1,x,y,fl) ⟨by dsimp only;omega,by dsimp only;omega,hin,hls⟩ aW aC (by exact HSub.skip (HSub.refl _))
   ·rw[show decide (gE S.d i j≠0)=true from decide_eq_true hz]
    cases fl with
    | false =>
     have h1:bY S i (x,y,false) j=(i,j,true):=by unfold bY;rw[if_pos ⟨hz,.inl rfl⟩]
     rw[h1]at hls
     rw[show iD (x,y,false)=iv (-1) from rfl]
     repeat' first|apply jS|apply jO|apply jN|apply jT|refine Q1 ?_|refine Q0 ?_|refine Qd ?_|refine Qp ?_|(refine Qg (h1:=?_) (h2:=?_)<;>intro hc<;>try omega)|refine Q5 rfl ?_|refine QA ?_|apply jW
     exact Q8 (j+1,i,j,true) ⟨by dsimp only;omega,by dsimp only;omega,fun _=>⟨hlt,hjt⟩,hls⟩ aW aC (by exact HSub.skip (HSub.refl _))
    | true =>
     obtain⟨hxm,hyn⟩:=hin rfl
     rw[show iD (x,y,true)=nv x from rfl,show iM (x,y,true)=nv y from rfl]
     repeat' first|refine Q1 ?_|refine Qm ?_|(refine Qg (h1:=?_) (h2:=?_)<;>intro hc<;>try omega)|fail
     refine Q9 au rfl aF rfl (fun w _ hs=>YO w b J m n t s S x y hJ ((HSub.skip (HSub.refl _)).aV hs) hxm hyn hm hn) fun w v w' _ _ _ hR=>?_
     subst hR
     skip
     refine Q9 au rfl aF rfl (fun w _ _=>Qbg K w (gE S.d i j) (gE S.d x y) hK hx (QT hb _ _)) fun w v w' _ _ _ hR=>?_
     subst hR
     by_cases hq:(gE S.d i j).natAbs<(gE S.d x y).natAbs
     ·have h1:bY S i (x,y,true) j=(i,j,true):=by unfold bY;rw[if_pos ⟨hz,.inr hq⟩]
      rw[h1]at hls
      rw[show decide ((gE S.d i j).natAbs<(gE S.d x y).natAbs)=true from decide_eq_true hq]
      repeat' first|apply jS|apply jO|apply jN|apply jT|refine Q1 ?_|refine Q0 ?_|refine Qd ?_|refine Qp ?_|refine Qq ?_|refine Q5 rfl ?_|apply jW
      exact Q8 (j+1,i,j,true) ⟨by dsimp only;omega,by dsimp only;omega,fun _=>⟨hlt,hjt⟩,hls⟩ aW aC (by exact HSub.skip (HSub.refl _))
     ·have h1:bY S i (x,y,true) j=(x,y,true):=by
       unfold bY
       rw[if_neg]
       rintro⟨_,h|h⟩
       ·cases h
       ·exact hq h
      rw[h1]at hls
      rw[show decide ((gE S.d i j).natAbs<(gE S.d x y).natAbs)=false from decide_eq_false hq]
      repeat' first|apply jO|apply jN|apply jT|refine Q1 ?_|refine Q0 ?_|refine Qd ?_|refine Qp ?_|refine Qq ?_|apply jK|refine Q4 rfl ?_|apply jW
      exact Q8 (j+1,x,y,true) ⟨by dsimp only;omega,by dsimp only;omega,hin,hls⟩ aW aC (by exact HSub.skip (HSub.refl _))
  ·rw[show n-j=0 by omega]at hls
   repeat' first|apply jS|apply jO|apply jN|apply jT|refine Q1 ?_|refine Q2 ?_|refine Q0 ?_|refine Q7 ?_|refine Qd ?_|refine Q3 ?_|(refine Qg (h1:=?_) (h2:=?_)<;>intro hc<;>try omega)|apply jU|apply jE|refine Q4 rfl ?_|apply jW|apply Qc
   exact Q8 (i+1,x,y,fl) ⟨by dsimp only;omega,by dsimp only;omega,hin,hls⟩ aW aC (HSub.refl _)
 ·rw[show m-i=0 by omega]at hls
  have hls:Qv S t m n=(x,y,fl):=hls
  rw[hls]
  cases fl with
  | true =>
   rw[show iD (x,y,true)=nv x from rfl,show iM (x,y,true)=nv y from rfl]
   repeat' first|apply jS|apply jO|apply jN|apply jT|refine Q1 ?_|refine Q2 ?_|refine Q0 ?_|refine Q7 ?_|refine Q3 ?_|(refine Qg (h1:=?_) (h2:=?_)<;>intro hc<;>try omega)|(refine Zs (h1:=?_) (h2:=?_)<;>intro hc<;>try omega)|apply jU|apply jE|apply jR|refine Q4 rfl ?_|apply Qc
   all_goals first
    | (exfalso;omega)
    | exact Yy [nv x,nv y,.bool true] ⟨rfl,rfl,rfl,trivial⟩ (fun a w' st=>⟨Z3 hs st.kp (fun p hp=>st.hs.blk p hp),rfl⟩)
  | false =>
   rw[show iD (x,y,false)=iv (-1) from rfl,show iM (x,y,false)=iv (-1) from rfl]
   repeat' first|apply jS|apply jO|apply jN|apply jT|refine Q1 ?_|refine Q2 ?_|refine Q0 ?_|refine Q7 ?_|refine Q3 ?_|(refine Qg (h1:=?_) (h2:=?_)<;>intro hc<;>try omega)|(refine Zs (h1:=?_) (h2:=?_)<;>intro hc<;>try omega)|apply jU|apply jE|apply jR|refine Q4 rfl ?_|apply Qc
   all_goals first
    | (exfalso;omega)
    | exact Yy [iv (-1),iv (-1),.bool false] ⟨rfl,rfl,rfl,trivial⟩ (fun a w' st=>⟨Z3 hs st.kp (fun p hp=>st.hs.blk p hp),rfl⟩)

theorem XH (K:Nat) (w:World) (b:Nat) (J:JW) (m n t:Nat) (s:Int) (S:Sm) (hJ:jm J m n S) (hs:aG (bJ b J m n t s) w) (hm:m≤200) (hn:n≤200) (bD:t≤m) (htn:t≤n) (hK:K≤9000000000) (hb:gZ K S.d=true) :
  Calls Tryz.prog 64 #[.pointer (some ⟨b,0,none⟩)] w (aQ fun v w'=>Kp [] w w'∧v=.bool (!(Qv S t m n).2.2)):=by
 refine Qa [] [] aA [] Tryz.func64 rfl mixed (by kernel_rfl) Tryz.ntmps64 Tryz.results64 rfl ⟨by simp,by simp⟩ aA ?_
 simp only[toS,Qe,Qx,Qo,Qr,ay,Ql,Qy,aB]
 repeat' first|apply jS|apply jO|apply jN|refine Q1 ?_|refine Q0 ?_|apply jT
 refine Q9 au rfl aF rfl (fun w' hk _=>Q74 K w' b J m n t s S hJ (hs.kp hk (fun _ _ h=>by cases h)) hm hn bD htn hK hb) fun w v w' _ _ _ hR=>?_
 subst hR
 repeat' first|apply jS|apply jO|apply jN|apply jT|refine Q1 ?_|refine Q0 ?_|refine QG ?_|refine Qu (h:=?_)|apply jR
 exact Qj rfl (fun a w' st=>⟨st.kp,rfl⟩)


theorem Qkn {p x q:List Int} {o i:Nat} {u:Int} (hp:p.length=o) (hi:i<x.length):(p++(x++q)).set (o+i) u=p++(x.set i u++q):=by
 rw[List.set_append_right _ _ oq,List.set_append_left _ _ oq,hp,Nat.add_sub_cancel_left]
theorem Q39 {bl k c4 o n cap:Nat} {A:Option Addr} {Q:aj→List Int→Prop} {C:Prop} {p q:List Int} (hA:dO bl o n cap A) (hQ:∀ N x,Q N x↔(aN N (.slice (some ⟨bl,0,none⟩) k c4) k (p++(x++q))∧x.length=n∧C)) (hp:C→p.length=o):Win Q (.slice A n cap) n:=by
 refine⟨fun {c N xs} h=>?_,fun {N xs i} h hi=>?_⟩
 ·obtain⟨h1,h2,h3⟩:=(hQ _ _).1 h
  have hl:=aN.len h1
  have h4:=hp h3
  rw[Vi,Vi]at hl
  have h5:=hA.rd (c:=c) (aN.rd h1) oq
  rw[Wz h4 h2]at h5
  exact h5
 ·obtain⟨h1,h2,h3⟩:=(hQ _ _).1 h
  have hl:=aN.len h1
  have h4:=hp h3
  rw[Vi,Vi]at hl
  have hAe:=hA.adr oq
  subst hAe
  refine⟨[],[],N,_,k,o,_,(Vh _).symm,h1,by omega,?_,fun N0' u h'=>?_⟩
  ·show (⟨bl,0+(o+i)*2,none⟩:Addr)=⟨bl,o*2+i*2,none⟩
   rw[Vq,Vl]
  ·rw[Vr,Vh]
   rw[Qkn h4 oq]at h'
   exact(hQ _ _).2 ⟨h',by rw[List.length_set];exact h2,h3⟩
def jF (bl k c4 m n:Nat) (hd:List Int) (N:aj) (a b c d e:List Int):Prop :=
 aN N (.slice (some ⟨bl,0,none⟩) k c4) k (hd++(a++(b++(c++(d++e)))))∧hd.length=4∧a.length=m*m∧b.length=m*m∧c.length=m*n∧d.length=n*n∧e.length=n*n
def jOf (bl k c4 m n:Nat) (hd:List Int) (N:aj) (E1 E2 E3 E4 E5:Option Addr) (e1 e2 e3 e4 e5:Nat):JW:=⟨⟨E1,e1⟩,⟨E2,e2⟩,⟨E3,e3⟩,⟨E4,e4⟩,⟨E5,e5⟩,N,jF bl k c4 m n hd⟩
theorem Qo8 {bl k c4 m n:Nat} {hd:List Int} {N:aj} {E1 E2 E3 E4 E5:Option Addr} {e1 e2 e3 e4 e5:Nat} {S:Sm} (hD:Dm m n S) (hh:hd.length=4)
  (hO:aN N (.slice (some ⟨bl,0,none⟩) k c4) k (hd++(S.u.flatten++(S.ui.flatten++(S.d.flatten++(S.v.flatten++S.vi.flatten))))))
  (h1:dO bl (4) (m*m) e1 E1) (h2:dO bl (4+m*m) (m*m) e2 E2) (h3:dO bl (4+m*m+m*m) (m*n) e3 E3) (h4:dO bl (4+m*m+m*m+m*n) (n*n) e4 E4) (h5:dO bl (4+m*m+m*m+m*n+n*n) (n*n) e5 E5):jm (jOf bl k c4 m n hd N E1 E2 E3 E4 E5 e1 e2 e3 e4 e5) m n S:=by
 refine⟨?_,?_,?_,?_,?_,?_,fun {N N' a b c d e a' b' c' d' e'} h h'=>ZA h'.1 h.1⟩
 ·show jF bl k c4 m n hd N _ _ _ _ _
  rw[Zj hD.u,Zj hD.ui,Zj hD.d,Zj hD.v,Zj hD.vi]
  exact⟨hO,hh,QQ hD.u,QQ hD.ui,QQ hD.d,QQ hD.v,QQ hD.vi⟩
 ·intro b c d e
  refine Q39 (k:=k) (c4:=c4) (C:=hd.length=4∧b.length=m*m∧c.length=m*n∧d.length=n*n∧e.length=n*n) (p:=hd) (q:=(b++(c++(d++e)))) h1 (fun N x=>⟨fun h=>?_,fun h=>?_⟩) (fun h=>?_)
  ·obtain⟨h0,hh,l0,l1,l2,l3,l4⟩:=(show jF bl k c4 m n hd N x b c d e from h)
   exact⟨by simpa only[Vb,Vh] using h0,l0,hh,l1,l2,l3,l4⟩
  ·obtain⟨h0,l0,hh,l1,l2,l3,l4⟩:=h
   exact(show jF bl k c4 m n hd N x b c d e from⟨by simpa only[Vb,Vh] using h0,hh,l0,l1,l2,l3,l4⟩)
  ·obtain⟨hh,l1,l2,l3,l4⟩:=h
   exact hh
 ·intro a c d e
  refine Q39 (k:=k) (c4:=c4) (C:=hd.length=4∧a.length=m*m∧c.length=m*n∧d.length=n*n∧e.length=n*n) (p:=(hd++a)) (q:=(c++(d++e))) h2 (fun N x=>⟨fun h=>?_,fun h=>?_⟩) (fun h=>?_)
  ·obtain⟨h0,hh,l0,l1,l2,l3,l4⟩:=(show jF bl k c4 m n hd N a x c d e from h)
   exact⟨by simpa only[Vb,Vh] using h0,l1,hh,l0,l2,l3,l4⟩
  ·obtain⟨h0,l1,hh,l0,l2,l3,l4⟩:=h
   exact(show jF bl k c4 m n hd N a x c d e from⟨by simpa only[Vb,Vh] using h0,hh,l0,l1,l2,l3,l4⟩)
  ·obtain⟨hh,l0,l2,l3,l4⟩:=h
   simp only[Vi]
   omega
 ·intro a b d e
  refine Q39 (k:=k) (c4:=c4) (C:=hd.length=4∧a.length=m*m∧b.length=m*m∧d.length=n*n∧e.length=n*n) (p:=((hd++a)++b)) (q:=(d++e)) h3 (fun N x=>⟨fun h=>?_,fun h=>?_⟩) (fun h=>?_)
  ·obtain⟨h0,hh,l0,l1,l2,l3,l4⟩:=(show jF bl k c4 m n hd N a b x d e from h)
   exact⟨by simpa only[Vb,Vh] using h0,l2,hh,l0,l1,l3,l4⟩
  ·obtain⟨h0,l2,hh,l0,l1,l3,l4⟩:=h
   exact(show jF bl k c4 m n hd N a b x d e from⟨by simpa only[Vb,Vh] using h0,hh,l0,l1,l2,l3,l4⟩)
  ·obtain⟨hh,l0,l1,l3,l4⟩:=h
   simp only[Vi]
   omega
 ·intro a b c e
  refine Q39 (k:=k) (c4:=c4) (C:=hd.length=4∧a.length=m*m∧b.length=m*m∧c.length=m*n∧e.length=n*n) (p:=(((hd++a)++b)++c)) (q:=e) h4 (fun N x=>⟨fun h=>?_,fun h=>?_⟩) (fun h=>?_)
  ·obtain⟨h0,hh,l0,l1,l2,l3,l4⟩:=(show jF bl k c4 m n hd N a b c x e from h)
   exact⟨by simpa only[Vb,Vh] using h0,l3,hh,l0,l1,l2,l4⟩
  ·obtain⟨h0,l3,hh,l0,l1,l2,l4⟩:=h
   exact(show jF bl k c4 m n hd N a b c x e from⟨by simpa only[Vb,Vh] using h0,hh,l0,l1,l2,l3,l4⟩)
  ·obtain⟨hh,l0,l1,l2,l4⟩:=h
   simp only[Vi]
   omega
 ·intro a b c d
  refine Q39 (k:=k) (c4:=c4) (C:=hd.length=4∧a.length=m*m∧b.length=m*m∧c.length=m*n∧d.length=n*n) (p:=((((hd++a)++b)++c)++d)) (q:=[]) h5 (fun N x=>⟨fun h=>?_,fun h=>?_⟩) (fun h=>?_)
  ·obtain⟨h0,hh,l0,l1,l2,l3,l4⟩:=(show jF bl k c4 m n hd N a b c d x from h)
   exact⟨by simpa only[Vb,Vh] using h0,l4,hh,l0,l1,l2,l3⟩
  ·obtain⟨h0,l4,hh,l0,l1,l2,l3⟩:=h
   exact(show jF bl k c4 m n hd N a b c d x from⟨by simpa only[Vb,Vh] using h0,hh,l0,l1,l2,l3,l4⟩)
  ·obtain⟨hh,l0,l1,l2,l3⟩:=h
   simp only[Vi]
   omega


def mwC (J:JW) (m n:Nat):Array Value:=#[nv m,nv m,.slice J.u.A (m*m) J.u.c,nv m,nv m,.slice J.ui.A (m*m) J.ui.c,nv m,nv n,.slice J.d.A (m*n) J.d.c,nv n,nv n,.slice J.v.A (n*n) J.v.c,nv n,nv n,.slice J.vi.A (n*n) J.vi.c]
theorem Q4q (K:Nat) (w:World) (b:Nat) (J:JW) (m n:Nat) (t s:Int) (S:Sm) (hJ:jm J m n S) (hD:Dm m n S) (hs:aG (bJ b J m n t s) w) (hm:m≤200) (hn:n≤200) (ht:t.natAbs<1099511627777) (hs0:s.natAbs<1099511627777)
  (hK:8≤K) (hK2:K≤9000000000) (hb:Ok K S) :
  Calls Tryz.prog 32 #[.pointer (some ⟨b,0,none⟩)] w (aQ fun v w'=>Kp [] w w'∧v=sv (bU (encZ m n t s S))):=by
 have hM:=QK hs
 have e8:(256:Nat) ^ 8=18446744073709551616:=by decide
 have hel:=YV hD t s
 have hbd:=Q1z (m:=m) (n:=n) (t:=t) (s:=s) (K:=K) hK (by rw[e8];omega) (by rw[e8];omega) (by rw[e8];omega) (by rw[e8];omega) hb
 have hmm:m*m≤40000:=Vn hm hm
 have hmn:m*n≤40000:=Vn hm hn
 have hnn:n*n≤40000:=Vn hn hn
 have hlu:bQ m n 0+m*m=bQ m n 1:=by unfold bQ;simp;try omega
 have hlui:bQ m n 1+m*m=bQ m n 2:=by unfold bQ;simp;try omega
 have hld:bQ m n 2+m*n=bQ m n 3:=by unfold bQ;simp;try omega
 have hlv:bQ m n 3+n*n=bQ m n 4:=by unfold bQ;simp;try omega
 have hlvi:bQ m n 4+n*n=bQ m n 5:=by unfold bQ;simp;try omega
 have hl0:bQ m n 0=4:=rfl
 have hJu:∀ c:Cx,fH c J.N (.slice J.u.A (m*m) J.u.c) (m*m) S.u.flatten:=fun c=>by
  have h:=(hJ.wu _ _ _ _).rd (c:=c) hJ.o
  rw[Zj hD.u]at h
  exact h
 have hJui:∀ c:Cx,fH c J.N (.slice J.ui.A (m*m) J.ui.c) (m*m) S.ui.flatten:=fun c=>by
  have h:=(hJ.wui _ _ _ _).rd (c:=c) hJ.o
  rw[Zj hD.ui]at h
  exact h
 have hJd:∀ c:Cx,fH c J.N (.slice J.d.A (m*n) J.d.c) (m*n) S.d.flatten:=fun c=>by
  have h:=(hJ.wd _ _ _ _).rd (c:=c) hJ.o
  rw[Zj hD.d]at h
  exact h
 have hJv:∀ c:Cx,fH c J.N (.slice J.v.A (n*n) J.v.c) (n*n) S.v.flatten:=fun c=>by
  have h:=(hJ.wv _ _ _ _).rd (c:=c) hJ.o
  rw[Zj hD.v]at h
  exact h
 have hJvi:∀ c:Cx,fH c J.N (.slice J.vi.A (n*n) J.vi.c) (n*n) S.vi.flatten:=fun c=>by
  have h:=(hJ.wvi _ _ _ _).rd (c:=c) hJ.o
  rw[Zj hD.vi]at h
  exact h
 have hres:∀ w',Kp (keys (bJ b J m n t s)) w w'→(∀ p∈bJ b J m n t s,w'.heap[p.1]?=some p.2)→Kp [] w w':=fun w' h1 h2=>Z3 hs h1 h2
 refine Qa [⟨1,1,[0,1,2,3,4,6,7,8,9,10,12,13,14,15,17,18,19,20,5,11,16,21,22,23],[]⟩,⟨2,2,[],[]⟩] (keys (bJ b J m n t s)) hM (bJ b J m n t s) Tryz.func32 rfl mixed (by kernel_rfl) Tryz.ntmps32 Tryz.results32 rfl hs (fun p hp=>List.mem_map.2 ⟨p,hp,rfl⟩) ?_
 simp only[toS,Qe,Qx,Qo,Qr,ay,Ql,Qy,aB]
 unfold bJ iq
 repeat' first|apply jS|apply jO|apply jD|apply jN|refine Q1 ?_|refine Q2 ?_|refine Q0 ?_|refine Q7 ?_|refine Q3 ?_|apply jT
 refine Q9 au rfl aF rfl (fun w _ _=>Yc w (m:Int) oq oq) fun w v w' _ _ _ hR=>?_
 subst hR
 skip
 refine Q9 au rfl aF rfl (fun w _ _=>Yc w (n:Int) oq oq) fun w v w' _ _ _ hR=>?_
 subst hR
 skip
 refine Q9 au rfl aF rfl (fun w _ _=>Yc w t oq oq) fun w v w' _ _ _ hR=>?_
 subst hR
 skip
 refine Q9 au rfl aF rfl (fun w _ _=>Yc w s oq oq) fun w v w' _ _ _ hR=>?_
 subst hR
 skip
 refine Zr (l:=[(0,Wv (m:Int)),(1,Wv (n:Int)),(2,Wv t),(3,Wv s)]) (cs:=hdC m n t s) rfl rfl rfl rfl dq dq (by kernel_rfl) (fun b30=>?_)
 have hO:=Qf2 0 (m:Int) n t s b30
 repeat' first|apply jS|apply jD|apply jN|refine Q1 ?_|refine Q2 ?_|refine Q0 ?_|refine Q3 ?_|apply jT
 refine QB 1 rfl rfl rfl rfl rfl rfl rfl rfl ?_
 repeat' first|refine Q1 ?_|refine Q2 ?_|refine Q3 ?_|fail
 refine QB 1 rfl rfl rfl rfl rfl rfl rfl rfl ?_
 repeat' first|refine Q1 ?_|refine Q2 ?_|refine Q3 ?_|fail
 refine QB 1 rfl rfl rfl rfl rfl rfl rfl rfl ?_
 repeat' first|refine Q1 ?_|refine Q2 ?_|refine Q3 ?_|fail
 refine QB 1 rfl rfl rfl rfl rfl rfl rfl rfl ?_
 repeat' first|refine Q1 ?_|refine Q2 ?_|refine Q3 ?_|fail
 refine QB 1 rfl rfl rfl rfl rfl rfl rfl rfl ?_
 skip
 refine Zr (l:=[(0,.agg #[nv m,nv m,.slice J.u.A (m*m) J.u.c]),(1,.agg #[nv m,nv m,.slice J.ui.A (m*m) J.ui.c]),(2,.agg #[nv m,nv n,.slice J.d.A (m*n) J.d.c]),(3,.agg #[nv n,nv n,.slice J.v.A (n*n) J.v.c]),(4,.agg #[nv n,nv n,.slice J.vi.A (n*n) J.vi.c])]) (cs:=mwC J m n) rfl rfl rfl rfl dq dq (by kernel_rfl) (fun jA=>?_)
 repeat' first|apply jS|apply jO|apply jN|apply jT|refine Q0 ?_|apply jB
 refine Qn (ι:=Nat × aj × Value) ⟨fun z=>[(5,nv z.1),(4,.slice (some ⟨jA,0,none⟩) 5 5),(3,z.2.2),(0,.pointer (some ⟨b,0,none⟩))],fun z=>(jA,.cells (mwC J m n) 28)::(z.2.1++bJ b J m n t s),
  fun z=>z.1≤5∧aN z.2.1 z.2.2 (bQ m n z.1) (dw m n t s S z.1),fun z=>5-z.1⟩ (0,[(b30,.cells (hdC m n t s) 75)],.slice (some ⟨b30,0,none⟩) 4 4) ⟨by omega,hO⟩ aC (HSub.refl _) (fun z hz=>?_)
 clear hO
 obtain⟨k,N,v3⟩:=z
 obtain⟨hk,hO⟩:=hz
 dsimp only at hk hO ⊢
 by_cases hlt:k<5
 ·have hst:=YH m n t s S k hlt
  have h5:k=0∨k=1∨k=2∨k=3∨k=4:=by omega
  rcases h5 with rfl|rfl|rfl|rfl|rfl
  ·repeat' first|apply jS|apply jO|apply jN|apply jT|refine Q1 ?_|refine ZC (h:=?_)|(refine Qg (h1:=?_) (h2:=?_)<;>intro hc<;>try omega)|apply jK|refine Q5 rfl ?_|apply jB
   refine Zh (o:=0) (j:=0) rfl rfl rfl (fun _=>rfl) rfl oq ?_
   repeat' first|refine Q2 ?_|refine Q7 ?_|fail
   refine Zi (A:=[(jA,.cells (mwC J m n) 28)]) (B:=bJ b J m n t s) hO (hJu _) (HSub.skip (Qf (HSub.skip HSub.dJ))) rfl au rfl rfl rfl rfl oq (fun v' N' aX=>?_)
   rw[show dw m n t s S 0++S.u.flatten=dw m n t s S 1 from hst,hlu]at aX
   repeat' first|apply jO|apply jN|apply jT|refine Q1 ?_|refine Q0 ?_|refine Qd ?_|apply jW
   exact Q8 (1,N',v') ⟨by dsimp only;omega,aX⟩ aW aC (HSub.refl _)
  ·repeat' first|apply jS|apply jO|apply jN|apply jT|refine Q1 ?_|refine ZC (h:=?_)|(refine Qg (h1:=?_) (h2:=?_)<;>intro hc<;>try omega)|apply jK|refine Q5 rfl ?_|apply jB
   refine Zh (o:=0) (j:=1) rfl rfl rfl (fun _=>rfl) rfl oq ?_
   repeat' first|refine Q2 ?_|refine Q7 ?_|fail
   refine Zi (A:=[(jA,.cells (mwC J m n) 28)]) (B:=bJ b J m n t s) hO (hJui _) (HSub.skip (Qf (HSub.skip HSub.dJ))) rfl au rfl rfl rfl rfl oq (fun v' N' aX=>?_)
   rw[show dw m n t s S 1++S.ui.flatten=dw m n t s S 2 from hst,hlui]at aX
   repeat' first|apply jO|apply jN|apply jT|refine Q1 ?_|refine Q0 ?_|refine Qd ?_|apply jW
   exact Q8 (2,N',v') ⟨by dsimp only;omega,aX⟩ aW aC (HSub.refl _)
  ·repeat' first|apply jS|apply jO|apply jN|apply jT|refine Q1 ?_|refine ZC (h:=?_)|(refine Qg (h1:=?_) (h2:=?_)<;>intro hc<;>try omega)|apply jK|refine Q5 rfl ?_|apply jB
   refine Zh (o:=0) (j:=2) rfl rfl rfl (fun _=>rfl) rfl oq ?_
   repeat' first|refine Q2 ?_|refine Q7 ?_|fail
   refine Zi (A:=[(jA,.cells (mwC J m n) 28)]) (B:=bJ b J m n t s) hO (hJd _) (HSub.skip (Qf (HSub.skip HSub.dJ))) rfl au rfl rfl rfl rfl oq (fun v' N' aX=>?_)
   rw[show dw m n t s S 2++S.d.flatten=dw m n t s S 3 from hst,hld]at aX
   repeat' first|apply jO|apply jN|apply jT|refine Q1 ?_|refine Q0 ?_|refine Qd ?_|apply jW
   exact Q8 (3,N',v') ⟨by dsimp only;omega,aX⟩ aW aC (HSub.refl _)
  ·repeat' first|apply jS|apply jO|apply jN|apply jT|refine Q1 ?_|refine ZC (h:=?_)|(refine Qg (h1:=?_) (h2:=?_)<;>intro hc<;>try omega)|apply jK|refine Q5 rfl ?_|apply jB
   refine Zh (o:=0) (j:=3) rfl rfl rfl (fun _=>rfl) rfl oq ?_
   repeat' first|refine Q2 ?_|refine Q7 ?_|fail
   refine Zi (A:=[(jA,.cells (mwC J m n) 28)]) (B:=bJ b J m n t s) hO (hJv _) (HSub.skip (Qf (HSub.skip HSub.dJ))) rfl au rfl rfl rfl rfl oq (fun v' N' aX=>?_)
   rw[show dw m n t s S 3++S.v.flatten=dw m n t s S 4 from hst,hlv]at aX
   repeat' first|apply jO|apply jN|apply jT|refine Q1 ?_|refine Q0 ?_|refine Qd ?_|apply jW
   exact Q8 (4,N',v') ⟨by dsimp only;omega,aX⟩ aW aC (HSub.refl _)
  ·repeat' first|apply jS|apply jO|apply jN|apply jT|refine Q1 ?_|refine ZC (h:=?_)|(refine Qg (h1:=?_) (h2:=?_)<;>intro hc<;>try omega)|apply jK|refine Q5 rfl ?_|apply jB
   refine Zh (o:=0) (j:=4) rfl rfl rfl (fun _=>rfl) rfl oq ?_
   repeat' first|refine Q2 ?_|refine Q7 ?_|fail
   refine Zi (A:=[(jA,.cells (mwC J m n) 28)]) (B:=bJ b J m n t s) hO (hJvi _) (HSub.skip (Qf (HSub.skip HSub.dJ))) rfl au rfl rfl rfl rfl oq (fun v' N' aX=>?_)
   rw[show dw m n t s S 4++S.vi.flatten=dw m n t s S 5 from hst,hlvi]at aX
   repeat' first|apply jO|apply jN|apply jT|refine Q1 ?_|refine Q0 ?_|refine Qd ?_|apply jW
   exact Q8 (5,N',v') ⟨by dsimp only;omega,aX⟩ aW aC (HSub.refl _)
 ·obtain rfl:k=5:=by omega
  rw[Xi]at hO
  have hL5:bQ m n 5=(encZ m n t s S).length:=by rw[hel];unfold bQ;simp;try omega
  have hp0:0<bQ m n 5:=by unfold bQ;omega
  have hLb:bQ m n 5≤200004:=by rw[hL5,hel];omega
  have hget:∀ i,i<bQ m n 5→fD (Wv ((encZ m n t s S).getD i 0)) ((encZ m n t s S).getD i 0) K:=fun i hi=>QC (hbd _ (QV oq))
  have hO0:=hO
  have hlen1:∀ i,(bU ((encZ m n t s S).take i)).length≤200004*(3*K+2):=fun i =>
   V0 (Q31 (K:=K) _ fun x hx=>hbd x (List.mem_of_mem_take hx)) (V1 _ (by rw[List.length_take];omega))
  have htl:∀ i,i<bQ m n 5→(tx ((encZ m n t s S).getD i 0)).length≤3*K+1:=fun i hi=>Q9p (hbd _ (QV oq))
  have hcap:200004*(3*K+2)≤200004*27000000002:=V3 _ oq
  generalize hLL:encZ m n t s S=L at hO hget hL5 hlen1 htl ⊢
  generalize bQ m n 5=q at hO hget hL5 hp0 hLb htl
  repeat' first|apply jS|apply jO|apply jN|apply jT|refine Q1 ?_|refine QY (h:=?_)|refine Y4 (h:=?_)|refine ZC (h:=?_)|(refine Qg (h1:=?_) (h2:=?_)<;>intro hc<;>try omega)|apply jU|apply jE|refine Q4 rfl ?_|apply Qc
  refine Q9 au rfl aF rfl (fun w _ _=>Q33 w _ (L.getD 0 0) K (hget 0 hp0) oq) fun w v w' _ _ _ hR=>?_
  subst hR
  have h1:tx (L.getD 0 0)=bU (L.take 1):=by
   cases L with
   | nil=>exact absurd hL5 (by simp;omega)
   | cons x l=>show tx x=tx x++[];rw[Vh]
  rw[h1]
  repeat' first|apply jS|apply jO|apply jN|apply jT|refine Q0 ?_|apply jB
  refine Qn (ι:=Nat) ⟨fun z=>[(7,nv z),(6,sv (bU (L.take z))),(3,v3),(0,.pointer (some ⟨b,0,none⟩))],fun z=>N++bJ b J m n t s,fun z=>1≤z∧z≤q,fun z=>q-z⟩ 1 ⟨V7 _,hp0⟩ aC (HSub.skip (HSub.refl _)) (fun z hz=>?_)
  obtain⟨hz1,hzq⟩:=hz
  dsimp only
  by_cases hlt:z<q
  ·have hl1:=hlen1 z
   have ht1:=htl z hlt
   repeat' first|apply jS|apply jO|apply jN|apply jT|refine Q1 ?_|refine Zt (h:=?_)|(refine Qg (h1:=?_) (h2:=?_)<;>intro hc<;>try omega)|apply jK|refine Q5 rfl ?_|apply jB
   refine WS (l:=bU (L.take z)) (l':=[32]) rfl rfl rfl rfl (by simp only[Vo];omega) ?_
   repeat' first|refine Q1 ?_|refine QY (h:=?_)|refine Y4 (h:=?_)|fail
   refine Q9 au rfl aF rfl (fun w _ _=>Q33 w _ (L.getD z 0) K (hget z hlt) oq) fun w v w' _ _ _ hR=>?_
   subst hR
   skip
   refine WS (l:=bU (L.take z)++[32]) (l':=tx (L.getD z 0)) rfl rfl rfl rfl (by simp only[Vi,Vo];omega) ?_
   have h2:bU (L.take z)++[32]++tx (L.getD z 0)=bU (L.take (z+1)):=by
    rw[Q6c oq,Q80 (by rw[List.length_take];omega),Vb]
    rfl
   rw[h2]
   repeat' first|apply jO|apply jN|apply jT|refine Q1 ?_|refine Q0 ?_|refine Qd ?_|apply jW
   exact Q8 (z+1) ⟨by first|omega|(dsimp only;omega),by first|omega|(dsimp only;omega)⟩ gY aC (HSub.refl _)
  ·obtain rfl:z=q:=by omega
   rw[Vd oq]
   repeat' first|apply jS|apply jO|apply jN|apply jT|refine Q1 ?_|refine Q0 ?_|refine Zt (h:=?_)|(refine Qg (h1:=?_) (h2:=?_)<;>intro hc<;>try omega)|apply jU|apply jE|apply jR|refine Q4 rfl ?_|apply Qc
   exact Qj rfl (fun a w' st=>⟨hres w' st.kp (fun p hp=>st.hs.blk p (List.mem_append_right _ hp)),rfl⟩)

end Go.Proofs.YtbofgpenopcfaaaGreatDoor

