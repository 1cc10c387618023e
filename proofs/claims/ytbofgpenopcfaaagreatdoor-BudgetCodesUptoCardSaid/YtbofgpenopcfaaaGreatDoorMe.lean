import Derived.Test.YtbofgpenopcfaaaGreatDoorMd
set_option maxHeartbeats 16000000
namespace Go.Proofs.YtbofgpenopcfaaaGreatDoor
open Go Go.RowKit
set_option linter.unusedSimpArgs false
set_option linter.unusedVariables false
set_option linter.unusedSectionVars false

theorem Q7w (a n:Nat) (hn:n≤32):a*2 ^ n % 4294967296=2 ^ n*(a % 2 ^ (32-n)):=by
 have e:(4294967296:Nat)=2 ^ (32-n)*2 ^ n:=by rw[← Nat.pow_add,show 32-n+n=32 by omega]
 rw[e,Nat.mul_mod_mul_right,Va]
theorem Qny {c n a:Nat} (hn:n≤32) (hc:c<2 ^ n):c ||| a*2 ^ n % 4294967296=c+a*2 ^ n % 4294967296:=by
 rw[Q7w a n hn,Nat.or_comm, ← Nat.two_pow_add_eq_or_of_lt hc,Nat.add_comm]
theorem Q8z {a b:Nat} (ha:a<4294967296) (hb:b<4294967296):a ||| b<4294967296:=Nat.or_lt_two_pow (n:=32) (by simpa using ha) (by simpa using hb)
theorem pow31 {n:Nat} (hn:n≤31):2 ^ n≤2147483648:=by
 have:=V4 (n:=2) dq hn
 simpa using this

theorem Qfv (w:World) (v:Value) (n s:Nat) (xs:List Nat) (hv:WU w v n xs) (hx:∀ x∈xs,x<W32) (hs31:s≤31) (hn:n≤16000000000000) :
  Calls Tryz.prog 176 #[v,nv s] w (aQ fun v w'=>Kp [] w w'∧∃ N zs,New N w w'∧aZ N v (n+1) zs∧(∀ x∈zs,x<W32)∧zs.getD n 0<2 ^ s∧val W32 zs=2 ^ s*val W32 xs):=by
 have hlx:=hv.len
 have hp:=pow31 hs31
 have hp0:0<2 ^ s:=Nat.pow_pos dq
 refine Qa [] [] aA [] Tryz.func176 rfl mixed (by kernel_rfl) Tryz.ntmps176 Tryz.results176 rfl ⟨by simp,by simp⟩ aA ?_
 simp only[toS,Qe,Qx,Qo,Qr,ay,Ql,Qy,aB]
 repeat' first|apply jS|apply jO|apply jN|refine Q1 ?_|refine Q0 ?_|refine Qd ?_|refine QW (h:=?_)|apply jT
 refine Xf (n:=n+1) rfl rfl rfl rfl rfl oq oq (fun b5=>?_)
 have hO:=Y0 b5 (n+1) (by simp only[maxLen];omega)
 repeat' first|apply jS|apply jO|apply jN|apply jT|refine Q1 ?_|refine Q0 ?_|refine QW (h:=?_)|apply jB
 refine Qn (ι:=Nat × aj × List Nat) ⟨fun z=>[(14,nv z.1),(13,nv n),(12,v),(5,.slice (some ⟨b5,0,none⟩) (n+1) (n+1)),(0,v),(1,nv s)],fun z=>z.2.1++[],
  fun z=>z.1≤n∧aZ z.2.1 (.slice (some ⟨b5,0,none⟩) (n+1) (n+1)) (n+1) z.2.2∧(∀ x∈z.2.2,x<W32)∧z.2.2.getD z.1 0<2 ^ s∧val W32 z.2.2=2 ^ s*val W32 (xs.take z.1)∧∀ j,z.1<j→z.2.2.getD j 0=0,fun z=>n-z.1⟩
  (0, _, _) ⟨V8 _, hO, fun x hx => by obtain ⟨a, _, rfl⟩ := List.mem_map.1 hx; decide, by
   show (tab (n+1) fun _=>0).getD 0 0<2 ^ s
   rw[Xe];exact hp0,by
   show val W32 (tab (n+1) fun _=>0)=_
   rw[We];simp[val],fun j _=>Xe _ j⟩ aC QE (fun z hz=>?_)
 clear hO
 obtain⟨i,N,zs⟩:=z
 obtain⟨hi,hO,hz,hci,hval,hzero⟩:=hz
 dsimp only at hi hO hz hci hval hzero ⊢
 have hlz:=hO.len
 by_cases hin:i<n
 ·have hxi:xs.getD i 0<4294967296:=QD (b:=W32) dq hx i
  have hzi:zs.getD i 0<4294967296:=QD (b:=W32) dq hz i
  have hwb:xs.getD i 0*2 ^ s<9223372036854775808:=by
   have:=Vn (show xs.getD i 0≤4294967295 by omega) hp
   omega
  have hlow:xs.getD i 0*2 ^ s % 4294967296<4294967296:=Nat.mod_lt _ dq
  have hor:=Qny (c:=zs.getD i 0) (n:=s) (a:=xs.getD i 0) oq hci
  have horlt:zs.getD i 0+xs.getD i 0*2 ^ s % 4294967296<4294967296:=by rw[← hor];exact Q8z hzi hlow
  repeat' first|apply jS|apply jO|apply jN|apply jT|refine Q1 ?_|refine Q0 ?_|refine Zd (h:=?_)|refine Yr (h:=?_)|refine X4 (h:=?_)|refine Q3n (h:=?_)|(refine Qg (h1:=?_) (h2:=?_)<;>intro hc<;>try omega)|apply jK|refine Q5 rfl ?_|apply jB
  rw[Nat.mod_eq_of_lt (show xs.getD i 0*2 ^ s<18446744073709551616 by omega)]
  refine Qc6 (zs.getD i 0+xs.getD i 0*2 ^ s % 4294967296) rfl rfl rfl rfl oq hor ?_
  repeat' first|refine Zd (h:=?_)|fail
  refine Xw (A:=[]) hO rfl rfl trivial rfl rfl oq (fun N1 bG=>?_)
  repeat' first|apply jO|apply jN|refine Q1 ?_|refine Qd ?_|refine Q5x (h:=?_)|refine Zd (h:=?_)|apply jT
  refine Xw (A:=[]) bG rfl rfl trivial rfl rfl oq (fun N2 hO2=>?_)
  repeat' first|apply jO|apply jN|apply jT|refine Q1 ?_|refine Qd ?_|apply jW
  refine Q8 (i+1,N2,_) ⟨by dsimp only;omega,hO2,Yj (Yj hz horlt) (by show _<4294967296;omega),?_,?_,fun j hj=>?_⟩ aW aC QE
  ·dsimp only
   rw[QP (by simp;omega)]
   refine(Nat.div_lt_iff_lt_mul dq).2 ?_
   rw[Va]
   exact Nat.mul_lt_mul_of_pos_left hxi hp0
  ·dsimp only
   have e1:=Xk (b:=W32) (l:=zs) (j:=i) (u:=zs.getD i 0+xs.getD i 0*2 ^ s % 4294967296) oq
   have e2:=Xk (b:=W32) (l:=zs.set i (zs.getD i 0+xs.getD i 0*2 ^ s % 4294967296)) (j:=i+1) (u:=xs.getD i 0*2 ^ s / 4294967296) (by simp;omega)
   rw[getD_set_ne oq,hzero (i+1) oq,Nat.mul_zero,Vp]at e2
   rw[e2,QJ,Vm, ← hval]
   have e3:W32 ^ i*(xs.getD i 0*2 ^ s % 4294967296)+W32 ^ (i+1)*(xs.getD i 0*2 ^ s / 4294967296)=W32 ^ i*(xs.getD i 0*2 ^ s):=by
    rw[V9,Vk, ← Vm,Nat.mod_add_div]
   have e4:2 ^ s*(W32 ^ i*xs.getD i 0)=W32 ^ i*(xs.getD i 0*2 ^ s):=by
    rw[Nat.mul_left_comm,Va (2 ^ s)]
   rw[e4, ← e3]
   rw[Vm]at e1
   omega
  ·dsimp only at hj ⊢
   rw[getD_set_ne oq,getD_set_ne oq]
   exact hzero j oq
 ·repeat' first|apply jS|apply jO|apply jN|apply jT|refine Q1 ?_|refine Q0 ?_|(refine Qg (h1:=?_) (h2:=?_)<;>intro hc<;>try omega)|apply jU|apply jE|apply jR|refine Q4 rfl ?_|apply Qc
  obtain rfl:i=n:=by omega
  exact Qj rfl (fun a w' st=>⟨st.kp,N,zs,st.bI rfl Qb,hO,hz,hci,by rw[hval,Vd oq]⟩)


section
variable {c:Cx} {Q:Exit→Act→World→Prop} {m:Mode} {F:ak} {H:aj} {r:List bT} {g:Option (Option Tmp × Bool)} {ns:Bool} {d:Tmp} {ty t t':TypeId} {x y:Operand} {i:Nat}
theorem Q8v {k:IntKind} [TI c.P t k] [TI c.P t' .u64] (hd:Qw c.n (some d)=true:=by exact rfl) (hg:Qi F g=some true:=by exact rfl) (hx:ev F x=some (.int k i):=by exact rfl) (hi:i<18446744073709551616:=by(first|assumption|omega)) (h:JO c Q m r ((d,uv i)::F) H):JO c Q m (⟨some d,.convert t t' x,ty,g,.bg,ns⟩::r) F H :=
 Wj (k':=.u64) (i:Int) hd hg hx (Q9n hi) h
end

theorem pow8 (r:Nat):2 ^ (8*r)=256 ^ r:=by rw[Nat.pow_mul]
theorem pow32 (j:Nat):W32 ^ j=256 ^ (4*j):=by rw[Nat.pow_mul]
theorem Qox {z b r:Nat} (hz:256 ^ (r+1)∣z) (hb:b<256):z ||| b*256 ^ r=z+b*256 ^ r:=by
 obtain⟨a,rfl⟩:=hz
 have h1:b*256 ^ r<2 ^ (8*(r+1)):=by
  rw[pow8,V9,Va]
  exact Nat.mul_lt_mul_of_pos_left hb (Nat.pow_pos dq)
 have:=Nat.two_pow_add_eq_or_of_lt h1 a
 rw[pow8]at this
 exact this.symm
theorem Ql7 {r:Nat} (hr:r<4):256 ^ r≤16777216:=by
 have:=V4 (n:=256) dq (show r≤3 by omega)
 simpa using this

theorem Q4n (w:World) (p:Bool) (l:List UInt8) (hl:l.length≤31000000000000) :
  Calls Tryz.prog 105 #[wv p l] w (aQ fun v w'=>Kp [] w w'∧∃ N zs,New N w w'∧aZ N v zs.length zs∧dA W32 zs∧val W32 zs=bV (bf l)):=by
 have hbl:=Xt l
 refine Qa [⟨6,2,[],[]⟩] [] aA [] Tryz.func105 rfl mixed (by kernel_rfl) Tryz.ntmps105 Tryz.results105 rfl ⟨by simp,by simp⟩ aA ?_
 simp only[toS,Qe,Qx,Qo,Qr,ay,Ql,Qy,aB]
 repeat' first|apply jS|apply jO|apply jN|refine Q2 ?_|refine Q0 ?_|refine Q7 ?_|refine Z8 (j:=4) (h:=?_)|refine W8 (j:=4) (h:=?_)|refine Yf (h:=?_)|refine Zu (h:=?_)|refine QM (h:=fun _=>?_)|apply jT
 rename_i b1
 refine Xf (n:=(l.length+4-1) / 4) rfl rfl rfl rfl rfl oq oq (fun b5=>?_)
 have hO:=Y0 b5 ((l.length+4-1) / 4) (by simp only[maxLen];omega)
 generalize hnw:(l.length+4-1) / 4=nw at hO ⊢
 repeat' first|apply jS|apply jO|apply jN|apply jT|refine Q1 ?_|refine Q2 ?_|refine Q0 ?_|refine Q7 ?_|refine Zu (h:=?_)|apply jB
 refine Qn (ι:=Nat × aj × List Nat) ⟨fun z=>[(16,nv z.1),(15,nv l.length),(3,.slice (some ⟨b5,0,none⟩) nw nw),(1,.pointer (some ⟨b1,0,none⟩))],fun z=>(b1,.cells #[.bool p,sv l] 75)::(z.2.1++[]),
  fun z=>z.1≤l.length∧aZ z.2.1 (.slice (some ⟨b5,0,none⟩) nw nw) nw z.2.2∧(∀ x∈z.2.2,x<W32)∧(∀ j,256 ^ min 4 (l.length-z.1-4*j)∣z.2.2.getD j 0)∧val W32 z.2.2=256 ^ (l.length-z.1)*bV ((bf l).take z.1),fun z=>l.length-z.1⟩
  (0, _, _) ⟨V8 _, hO, fun x hx => by obtain ⟨a, _, rfl⟩ := List.mem_map.1 hx; decide, fun j => by
   show _∣(tab nw fun _=>0).getD j 0
   rw[Xe];exact Nat.dvd_zero _,by
   show val W32 (tab nw fun _=>0)=_
   rw[We,List.take_zero,WE,Nat.mul_zero]⟩ aC (by exact HSub.at 1 rfl (HSub.at 0 rfl (HSub.nil _))) (fun z hz=>?_)
 clear hO
 obtain⟨i,N,zs⟩:=z
 obtain⟨hi,hO,hz,hdv,hval⟩:=hz
 dsimp only at hi hO hz hdv hval ⊢
 have hlz:=hO.len
 by_cases hin:i<l.length
 ·have hb256:(bf l).getD i 0<256:=Q4g
  have hbb:(bf l).getD i 0<18446744073709551616:=by omega
  obtain⟨k,hk⟩:∃ k,k=l.length-1-i:=⟨_,rfl⟩
  have hki:l.length-i=k+1:=by omega
  have hzk:zs.getD (k / 4) 0<4294967296:=QD (b:=W32) dq hz _
  have hr4:k % 4<4:=Nat.mod_lt _ dq
  have hp3:=Ql7 hr4
  have hsh:(bf l).getD i 0*256 ^ (k % 4)<4294967296:=by
   have:=Vn (show (bf l).getD i 0≤255 by omega) hp3
   omega
  have hdk:256 ^ (k % 4+1)∣zs.getD (k / 4) 0:=by
   have:=hdv (k / 4)
   rwa [hki,show min 4 (k+1-4*(k / 4))=k % 4+1 by omega]at this
  have hor:=Qox hdk hb256
  have horlt:zs.getD (k / 4) 0+(bf l).getD i 0*256 ^ (k % 4)<4294967296:=by rw[← hor];exact Q8z hzk hsh
  have hkn:k / 4<nw:=by omega
  repeat' first|apply jS|apply jO|apply jD|apply jN|apply jT|refine Q1 ?_|refine Q2 ?_|refine Q0 ?_|refine Q7 ?_|refine W8 (j:=4) (h:=?_)|refine W6 (j:=4) (h:=?_)|refine Z1 (i:=8) (h:=?_)|refine Yf (h:=?_)|refine WQ (h:=?_)|refine Q8v (h:=?_)|refine Zd (h:=?_)|refine Yr (h:=?_)|refine Zu (h:=?_)|refine YG (h:=?_)|refine Q3n (h:=?_)|(refine Qg (h1:=?_) (h2:=?_)<;>intro hc<;>try omega)|apply jK|refine Q5 rfl ?_|apply jB
  rw[← hk,pow8,Nat.mod_eq_of_lt (show (bf l).getD i 0*256 ^ (k % 4)<18446744073709551616 by omega)]
  refine Qc6 (zs.getD (k / 4) 0+(bf l).getD i 0*256 ^ (k % 4)) rfl rfl rfl rfl oq hor ?_
  repeat' first|refine Zd (h:=?_)|fail
  refine Xw (A:=[_]) hO rfl rfl au rfl rfl oq (fun N1 bG=>?_)
  repeat' first|apply jO|apply jN|apply jT|refine Q1 ?_|refine Qd ?_|apply jW
  refine Q8 (i+1,N1,_) ⟨by dsimp only;omega,bG,Yj hz horlt,fun j=>?_,?_⟩ aW aC QE
  ·dsimp only
   by_cases hj:k / 4=j
   ·subst hj
    rw[QP oq,show min 4 (l.length-(i+1)-4*(k / 4))=k % 4 by omega]
    exact Nat.dvd_add (Nat.dvd_trans (Nat.pow_dvd_pow 256 (Nat.le_succ _)) hdk) (Nat.dvd_mul_left _ _)
   ·rw[getD_set_ne hj]
    exact Nat.dvd_trans (Nat.pow_dvd_pow 256 oq) (hdv j)
  ·dsimp only
   have e:=Xk (b:=W32) (l:=zs) (j:=k / 4) (u:=zs.getD (k / 4) 0+(bf l).getD i 0*256 ^ (k % 4)) oq
   rw[Vm]at e
   have e2:W32 ^ (k / 4)*((bf l).getD i 0*256 ^ (k % 4))=256 ^ k*(bf l).getD i 0:=by
    rw[pow32,Nat.mul_left_comm, ← Nat.pow_add,show 4*(k / 4)+k % 4=k by omega,Va]
   rw[Q8j _ _ oq,show l.length-(i+1)=k by omega,Vm, ← Vk]
   rw[hki,V9]at hval
   omega
 ·repeat' first|apply jS|apply jO|apply jN|apply jT|refine Q1 ?_|(refine Qg (h1:=?_) (h2:=?_)<;>intro hc<;>try omega)|apply jU|apply jE|refine Q4 rfl ?_|apply Qc
  refine Q9 trivial rfl rfl rfl (fun w hk hs=>YR w _ _ _ _ (hO.rd.at hk hs Qb) oq) fun w v w' _ _ _ hR=>?_
  obtain⟨q,hq,rfl,hnq⟩:=hR
  repeat' first|apply jN|apply jT|refine Q0 ?_|apply jR
  have hown:=hO.hd hq
  rw[← hnq]at hown
  have jG:(nrm zs).length=q:=hown.len
  refine Qj rfl (fun a w' st=>⟨st.kp,N,nrm zs,st.bI rfl Qb,by rw[jG];exact hown,dA.of hz,?_⟩)
  obtain rfl:i=l.length:=by omega
  rw[Zo,hval,Nat.sub_self,Nat.pow_zero,Nat.one_mul,Vd oq]

theorem Q8x (k:Nat):256 ^ k≤W32 ^ (k / 4+1):=by
 rw[show W32=256 ^ 4 from rfl, ← Nat.pow_mul]
 exact V4 dq oq


theorem Q8r {d W r x Z cur:Nat} (hc:cur=r*W+x):x+W*(d*Z+r)=d*(cur / d+W*Z)+cur % d:=by
 have h1:=Nat.div_add_mod cur d
 rw[Vm,Vm,Nat.mul_left_comm W d Z,Va W r]
 omega
theorem Xj {l:List Nat} {i u:Nat}:(l.set i u).drop (i+1)=l.drop (i+1):=by
 apply List.ext_getElem?
 intro j
 rw[List.getElem?_drop,List.getElem?_drop,List.getElem?_set_ne oq]

theorem Qfu (w:World) (v:Value) (n d:Nat) (xs:List Nat) (hv:WU w v n xs) (hx:∀ x∈xs,x<W32) (hd0:0<d) (hd1:d<4294967296) (hn:n≤16000000000000) :
  Calls Tryz.prog 140 #[v,uv d] w (aQ fun v w'=>Kp [] w w'∧∃ v1 N zs,v=.tuple #[v1,uv (val W32 xs % d)]∧New N w w'∧aZ N v1 zs.length zs∧dA W32 zs∧val W32 zs=val W32 xs / d):=by
 have hlx:=hv.len
 refine Qa [⟨7,11,[],[]⟩] [] aA [] Tryz.func140 rfl mixed (by kernel_rfl) Tryz.ntmps140 Tryz.results140 rfl ⟨by simp,by simp⟩ aA ?_
 simp only[toS,Qe,Qx,Qo,Qr,ay,Ql,Qy,aB]
 repeat' first|apply jS|apply jO|apply jN|refine Q1 ?_|refine Q0 ?_|refine QW (h:=?_)|apply jT
 refine Xf (n:=n) rfl rfl rfl rfl rfl oq oq (fun b5=>?_)
 have hO:=Y0 b5 n (by simp only[maxLen];omega)
 repeat' first|apply jS|apply jO|apply jN|apply jT|refine Q1 ?_|refine Q0 ?_|refine X3 (h:=?_)|refine QW (h:=?_)|apply jB
 refine Qn (ι:=Nat × Nat × aj × List Nat) ⟨fun z=>[(8,iv ((z.1:Int)-1)),(7,uv z.2.1),(6,.slice (some ⟨b5,0,none⟩) n n),(0,v),(1,uv d)],fun z=>z.2.2.1++[],
  fun z=>z.1≤n∧aZ z.2.2.1 (.slice (some ⟨b5,0,none⟩) n n) n z.2.2.2∧(∀ x∈z.2.2.2,x<W32)∧z.2.1<d∧val W32 (xs.drop z.1)=d*val W32 (z.2.2.2.drop z.1)+z.2.1,fun z=>z.1⟩
  (n, 0, _, _) ⟨V7 _, hO, fun x hx => by obtain ⟨a, _, rfl⟩ := List.mem_map.1 hx; decide, hd0, by
   show val W32 (xs.drop n)=d*val W32 ((tab n fun _=>0).drop n)+0
   rw[Z5 oq,Z5 (by simp[tab])];rfl⟩ aC QE (fun z hz=>?_)
 clear hO
 obtain⟨j,r,N,zs⟩:=z
 obtain⟨hj,hO,hz,hr,hval⟩:=hz
 dsimp only at hj hO hz hr hval ⊢
 have hlz:=hO.len
 rcases j with _|q
 ·repeat' first|apply jS|apply jO|apply jN|apply jT|refine Q1 ?_|(refine Zs (h1:=?_) (h2:=?_)<;>intro hc<;>try omega)|apply jU|apply jE|refine Q4 rfl ?_|apply Qc
  refine Q9 trivial rfl rfl rfl (fun w hk hs=>YR w _ _ _ _ (hO.rd.at hk hs Qb) oq) fun w v w' _ _ _ hR=>?_
  obtain⟨q,hq,rfl,hnq⟩:=hR
  repeat' first|apply jN|apply jT|refine Q1 ?_|refine Q0 ?_|apply jR
  have hown:=hO.hd hq
  rw[← hnq]at hown
  have jG:(nrm zs).length=q:=hown.len
  rw[List.drop_zero,List.drop_zero]at hval
  have hmod:val W32 xs % d=r:=by rw[hval,Nat.mul_add_mod,Nat.mod_eq_of_lt hr]
  have hdiv:val W32 xs / d=val W32 zs:=by rw[hval,Nat.mul_add_div hd0,Nat.div_eq_of_lt hr,Vp]
  refine QN rfl rfl (fun a w' st=>⟨st.kp,_,N,nrm zs,by rw[hmod],st.bI rfl Qb,by rw[jG];exact hown,dA.of hz,by rw[Zo,hdiv]⟩)
 ·have hiv:iv (((q+1:Nat):Int)-1)=nv q:=by
   show iv _=iv _
   congr 1
   omega
  rw[hiv]
  have hxq:xs.getD q 0<4294967296:=QD (b:=W32) dq hx q
  repeat' first|apply jS|apply jO|apply jD|apply jN|apply jT|refine Q1 ?_|refine Q0 ?_|refine Q3o (h:=?_)|refine Qa4 (h:=?_)|refine Zd (h:=?_)|refine Yr (h:=?_)|refine Qa3 (h:=?_)|refine Qa2 (h:=?_)|(refine Zs (h1:=?_) (h2:=?_)<;>intro hc<;>try omega)|apply jK|refine Q5 rfl ?_|apply jB
  refine Xw (A:=[]) hO rfl rfl au rfl rfl oq (fun N' aX=>?_)
  repeat' first|apply jO|apply jN|apply jT|refine Q1 ?_|refine Q0 ?_|refine X3 (h:=?_)|apply jW
  refine Q8 (q,_,N',_) ⟨by dsimp only;omega,aX,Yj hz ?_,Nat.mod_lt _ hd0,?_⟩ aW aC QE
  ·refine(Nat.div_lt_iff_lt_mul hd0).2 ?_
   show _<4294967296*d
   omega
  ·dsimp only
   rw[Z6 oq,Z6 (l:=zs.set q _) (by simp;omega),Xj,QP oq,hval]
   exact Q8r rfl


theorem Qn0 {s:Nat} (hs:s≤31) (x:Nat) (hx:x<4294967296):x*2 ^ (32-s) % 18446744073709551616 % 4294967296=2 ^ (32-s)*(x % 2 ^ s):=by
 have h1:x*2 ^ (32-s)<18446744073709551616:=by
  have h2:2 ^ (32-s)≤4294967296:=by
   have:=V4 (n:=2) dq (show 32-s≤32 by omega)
   simpa using this
  have:=Vn (show x≤4294967295 by omega) h2
  omega
 rw[Nat.mod_eq_of_lt h1,Q7w x (32-s) oq,show 32-(32-s)=s by omega]
theorem Qgx {s P A x:Nat} (hs:s≤31):(A+P*4294967296*x) / 2 ^ s=A / 2 ^ s+P*(2 ^ (32-s)*(x % 2 ^ s))+P*4294967296*(x / 2 ^ s):=by
 have hp:0<2 ^ s:=Nat.pow_pos dq
 have e:(4294967296:Nat)=2 ^ (32-s)*2 ^ s:=by rw[← Nat.pow_add,show 32-s+s=32 by omega]
 have e2:A+P*4294967296*x=A+2 ^ s*(P*(2 ^ (32-s)*(x % 2 ^ s))+P*4294967296*(x / 2 ^ s)):=by
  have h1:x=x % 2 ^ s+2 ^ s*(x / 2 ^ s):=(Nat.mod_add_div x (2 ^ s)).symm
  have h2:P*4294967296*x=P*4294967296*(x % 2 ^ s)+2 ^ s*(P*4294967296*(x / 2 ^ s)):=by
   conv=>lhs;rw[h1]
   rw[Vm,Nat.mul_left_comm]
  have h3:P*4294967296*(x % 2 ^ s)=2 ^ s*(P*(2 ^ (32-s)*(x % 2 ^ s))):=by
   conv=>lhs;rw[e]
   simp only[Nat.mul_left_comm,Va,Vk]
  rw[h2,h3,Vm]
 rw[e2,Nat.add_mul_div_left _ _ hp,Nat.add_assoc]
theorem Qfr (w:World) (v:Value) (n s:Nat) (xs:List Nat) (hv:WU w v n xs) (hx:∀ x∈xs,x<W32) (hs31:s≤31) (hn:n≤16000000000000) :
  Calls Tryz.prog 179 #[v,nv s] w (aQ fun v w'=>Kp [] w w'∧∃ N zs,New N w w'∧aZ N v zs.length zs∧dA W32 zs∧val W32 zs=val W32 xs / 2 ^ s):=by
 have hlx:=hv.len
 have hp0:0<2 ^ s:=Nat.pow_pos dq
 refine Qa [⟨5,3,[],[]⟩,⟨7,3,[],[]⟩] [] aA [] Tryz.func179 rfl mixed (by kernel_rfl) Tryz.ntmps179 Tryz.results179 rfl ⟨by simp,by simp⟩ aA ?_
 simp only[toS,Qe,Qx,Qo,Qr,ay,Ql,Qy,aB]
 repeat' first|apply jS|apply jO|apply jN|refine Q1 ?_|refine Q0 ?_|refine QW (h:=?_)|apply jT
 refine Xf (n:=n) rfl rfl rfl rfl rfl oq oq (fun b5=>?_)
 have hO:=Y0 b5 n (by simp only[maxLen];omega)
 repeat' first|apply jS|apply jO|apply jN|apply jT|refine Q1 ?_|refine Q0 ?_|refine QW (h:=?_)|apply jB
 refine Qn (ι:=Nat × aj × List Nat) ⟨fun z=>[(13,nv z.1),(12,nv n),(11,v),(5,.slice (some ⟨b5,0,none⟩) n n),(0,v),(1,nv s)],fun z=>z.2.1++[],
  fun z=>z.1≤n∧aZ z.2.1 (.slice (some ⟨b5,0,none⟩) n n) n z.2.2∧(∀ x∈z.2.2,x<W32)∧(0<z.1→z.2.2.getD (z.1-1) 0<2 ^ (32-s))∧val W32 z.2.2=val W32 (xs.take z.1) / 2 ^ s∧∀ j,z.1≤j→z.2.2.getD j 0=0,fun z=>n-z.1⟩
  (0, _, _) ⟨V8 _, hO, fun x hx => by obtain ⟨a, _, rfl⟩ := List.mem_map.1 hx; decide, fun h => absurd h (Nat.lt_irrefl 0), by
   show val W32 (tab n fun _=>0)=_
   rw[We];simp[val],fun j _=>Xe _ j⟩ aC QE (fun z hz=>?_)
 clear hO
 obtain⟨i,N,zs⟩:=z
 obtain⟨hi,hO,hz,hci,hval,hzero⟩:=hz
 dsimp only at hi hO hz hci hval hzero ⊢
 have hlz:=hO.len
 by_cases hin:i<n
 ·have hxi:xs.getD i 0<4294967296:=QD (b:=W32) dq hx i
  have hsh:xs.getD i 0 / 2 ^ s<4294967296:=V5 (Nat.div_le_self _ _) hxi
  have hlt32:xs.getD i 0 / 2 ^ s<2 ^ (32-s):=by
   refine(Nat.div_lt_iff_lt_mul hp0).2 ?_
   rw[← Nat.pow_add,show 32-s+s=32 by omega]
   exact hxi
  have hor1:zs.getD i 0 ||| xs.getD i 0 / 2 ^ s=xs.getD i 0 / 2 ^ s:=by rw[hzero i (V7 _),Nat.zero_or]
  have hzi:zs.getD i 0<4294967296:=QD (b:=W32) dq hz i
  repeat' first|apply jS|apply jO|apply jD|apply jN|apply jT|refine Q1 ?_|refine Q0 ?_|refine Zd (h:=?_)|refine Yr (h:=?_)|refine Xx (h:=?_)|(refine Qg (h1:=?_) (h2:=?_)<;>intro hc<;>try omega)|apply jK|refine Q5 rfl ?_|apply jB
  refine Qc6 (xs.getD i 0 / 2 ^ s) rfl rfl rfl rfl oq hor1 ?_
  repeat' first|refine Zd (h:=?_)|fail
  refine Xw (A:=[]) hO rfl rfl au rfl rfl oq (fun N1 bG=>?_)
  have e1:=Xk (b:=W32) (l:=zs) (j:=i) (u:=xs.getD i 0 / 2 ^ s) oq
  rw[hzero i (V7 _),Nat.mul_zero,Vp]at e1
  by_cases hi0:0<i
  ·have hzp:zs.getD (i-1) 0<4294967296:=QD (b:=W32) dq hz (i-1)
   have hul:=Qn0 hs31 _ hxi
   have hul2:2 ^ (32-s)*(xs.getD i 0 % 2 ^ s)<4294967296:=by rw[← hul];exact Nat.mod_lt _ dq
   have hor2:zs.getD (i-1) 0 ||| 2 ^ (32-s)*(xs.getD i 0 % 2 ^ s)=zs.getD (i-1) 0+2 ^ (32-s)*(xs.getD i 0 % 2 ^ s):=by
    rw[Nat.or_comm, ← Nat.two_pow_add_eq_or_of_lt (hci hi0),Nat.add_comm]
   have hor3:zs.getD (i-1) 0+2 ^ (32-s)*(xs.getD i 0 % 2 ^ s)<4294967296:=by rw[← hor2];exact Q8z hzp hul2
   have hget:(zs.set i (xs.getD i 0 / 2 ^ s)).getD (i-1) 0=zs.getD (i-1) 0:=getD_set_ne oq
   have hsub:((32:Int)-(s:Int))=((32-s:Nat):Int):=by omega
   repeat' first|apply jS|apply jO|apply jD|apply jN|apply jT|refine Q1 ?_|refine Yf (h:=?_)|refine X3 (h:=?_)|refine Zd (h:=?_)|refine Yr (h:=?_)|(refine QU (h1:=?_) (h2:=?_)<;>intro hc<;>try omega)|refine Q5 rfl ?_
   refine Q3n (j:=32-s) rfl rfl rfl (by first|rfl|exact congrArg (fun z=>some (Value.int .i64 z)) hsub) oq ?_
   repeat' first|refine X4 (h:=?_)|fail
   refine Qc6 (zs.getD (i-1) 0+2 ^ (32-s)*(xs.getD i 0 % 2 ^ s)) rfl rfl rfl rfl (by rw[hget,hul];omega) (by rw[hget,hul];exact hor2) ?_
   repeat' first|refine Zd (h:=?_)|fail
   refine Xw (A:=[]) bG rfl rfl au rfl rfl oq (fun N2 hO2=>?_)
   repeat' first|apply jO|apply jN|apply jT|refine Q1 ?_|refine Qd ?_|apply jW
   refine Q8 (i+1,N2,_) ⟨by dsimp only;omega,hO2,Yj (Yj hz hsh) hor3,fun _=>?_,?_,fun j hj=>?_⟩ aW aC QE
   ·dsimp only
    rw[Nat.add_sub_cancel,getD_set_ne oq,QP oq]
    exact hlt32
   ·dsimp only
    have e2:=Xk (b:=W32) (l:=zs.set i (xs.getD i 0 / 2 ^ s)) (j:=i-1) (u:=zs.getD (i-1) 0+2 ^ (32-s)*(xs.getD i 0 % 2 ^ s)) (by simp;omega)
    rw[hget]at e2
    have e3:=Qgx (s:=s) (P:=W32 ^ (i-1)) (A:=val W32 (xs.take i)) (x:=xs.getD i 0) hs31
    have e4:W32 ^ (i-1)*4294967296=W32 ^ i:=by
     conv=>rhs;rw[show i=i-1+1 by omega,V9]
    rw[e4]at e3
    rw[QJ,e3, ← hval]
    rw[Vm]at e2
    omega
   ·dsimp only at hj ⊢
    rw[getD_set_ne oq,getD_set_ne oq]
    exact hzero j oq
  ·obtain rfl:i=0:=by omega
   repeat' first|apply jS|apply jO|apply jN|apply jT|refine Q1 ?_|refine Qd ?_|(refine QU (h1:=?_) (h2:=?_)<;>intro hc<;>try omega)|apply jK|refine Q4 rfl ?_|apply jW
   refine Q8 (0+1,N1,_) ⟨by dsimp only;omega,bG,Yj hz hsh,fun _=>?_,?_,fun j hj=>?_⟩ aW aC QE
   ·dsimp only
    rw[QP oq]
    exact hlt32
   ·dsimp only
    rw[e1,hval,QJ]
    simp[val]
   ·dsimp only at hj ⊢
    rw[getD_set_ne oq]
    exact hzero j oq
 ·repeat' first|apply jS|apply jO|apply jN|apply jT|refine Q1 ?_|(refine Qg (h1:=?_) (h2:=?_)<;>intro hc<;>try omega)|apply jU|apply jE|refine Q4 rfl ?_|apply Qc
  refine Q9 trivial rfl rfl rfl (fun w hk hs=>YR w _ _ _ _ (hO.rd.at hk hs Qb) oq) fun w v w' _ _ _ hR=>?_
  obtain⟨q,hq,rfl,hnq⟩:=hR
  repeat' first|apply jN|apply jT|refine Q0 ?_|apply jR
  have hown:=hO.hd hq
  rw[← hnq]at hown
  have jG:(nrm zs).length=q:=hown.len
  refine Qj rfl (fun a w' st=>⟨st.kp,N,nrm zs,st.bI rfl Qb,by rw[jG];exact hown,dA.of hz,?_⟩)
  rw[Zo,hval,Vd oq]


structure GivesD (v:Value) (xs ys:List Nat) (w:World) (r:Value) (w':World):Prop where
 ex:∃ N1 N2 v1 v2 zs rs,r=.tuple #[v1,v2]∧New (N1++N2) w w'∧aZ N1 v1 zs.length zs∧(aZ N2 v2 rs.length rs∨(N2=[]∧v2=v∧rs=xs))∧dA W32 zs∧dA W32 rs∧val W32 xs=val W32 zs*val W32 ys+val W32 rs∧val W32 rs<val W32 ys

theorem Qgv {b:Nat} {ys:List Nat} (h:ys.length=1):val b ys=ys.getD 0 0:=by
 match ys,h with
 | [y],_=>simp[val]

theorem Qau {A P z V D W Z T U:Nat} (hU:U=z+V*D) (h:A+P*U+V*(P*W*Z)=T):A+P*z+V*(P*(D+W*Z))=T:=by
 subst hU
 rw[← h]
 simp only[Vm,Vk,Nat.mul_left_comm P V D]
 omega

theorem Qpp (w:World) (v u:Value) (n k:Nat) (xs ys:List Nat) (hv:WU w v n xs) (hu:WU w u k ys) (hx:dA W32 xs) (hy:dA W32 ys) (h0:0<val W32 ys) (hn:n≤8300000000000) (hk:k≤8300000000000) :
  Calls Tryz.prog 161 #[v,u] w (aQ fun r w'=>Kp [] w w'∧GivesD v xs ys w r w'):=by
 have hlx:=hv.len
 have hly:=hu.len
 have hk0:0<k:=by
  rcases Nat.eq_zero_or_pos k with h|h
  ·subst h
   rw[List.eq_nil_of_length_eq_zero hly]at h0
   exact absurd h0 (Nat.lt_irrefl 0)
  ·exact h
 refine Qa [⟨11,1,[],[]⟩,⟨16,1,[],[]⟩,⟨17,8,[],[]⟩] [] aA [] Tryz.func161 rfl mixed (by kernel_rfl) Tryz.ntmps161 Tryz.results161 rfl ⟨by simp,by simp⟩ aA ?_
 simp only[toS,Qe,Qx,Qo,Qr,ay,Ql,Qy,aB]
 repeat' first|apply jS|apply jO|apply jN|refine Q1 ?_|refine Q0 ?_|apply jT
 refine Q9 trivial rfl rfl rfl (fun w hk' hs=>Qmd w _ _ _ _ _ _ (hv.mono hk') (hu.mono hk') hx hy oq oq) fun w v w' _ _ _ hR=>?_
 subst hR
 by_cases hlt:val W32 xs<val W32 ys
 ·have hneg:=YB.2 hlt
  repeat' first|apply jS|apply jO|apply jN|apply jT|refine Q1 ?_|refine Q0 ?_|(refine Qg (h1:=?_) (h2:=?_)<;>intro hc<;>try omega)|apply jV|apply jR|refine Q5 rfl ?_
  exact QN rfl rfl (fun a w' st=>⟨st.kp,⟨[],[],_,_,[],xs,rfl,New.nil _ _,aZ.nil,.inr ⟨rfl,rfl,rfl⟩,dA.nil _,hx,by simp[val],hlt⟩⟩)
 have hneg:¬fG (val W32 xs) (val W32 ys)<0:=fun h=>hlt (YB.1 h)
 have hkn:k≤n:=by
  refine Ve fun h=>hlt ?_
  exact YL dq hx hy oq
 by_cases hk1:k=1
 ·subst hk1
  have hd1:ys.getD 0 0<4294967296:=QD (b:=W32) dq hy.lt 0
  have hvy:=Qgv (b:=W32) hly
  rw[hvy]at h0
  repeat' first|apply jS|apply jO|apply jN|apply jT|refine Q1 ?_|refine Zd (h:=?_)|refine Yr (h:=?_)|refine QW (h:=?_)|(refine Qg (h1:=?_) (h2:=?_)<;>intro hc<;>try omega)|(refine Zm (h1:=?_) (h2:=?_)<;>intro hc<;>try omega)|apply jK|refine Q5 rfl ?_|refine Q4 rfl ?_
  refine Qt (A:=[]) rfl trivial rfl rfl rfl (fun w hk hs=>Qfu w _ _ _ _ (hv.mono hk) hx.lt h0 hd1 oq) fun w v w' _ _ _ hR=>?_
  obtain⟨v1,N1,zs,rfl,hN1,bG,hz1,aP⟩:=hR
  refine⟨N1,hN1,?_⟩
  repeat' first|apply jS|apply jO|apply jN|refine Q1 ?_|refine Q0 ?_|refine Qu (h:=?_)|refine QH (h:=fun _=>?_)|apply jT
  rename_i b3
  have hO3:aZ [(b3,.cells ⟨[uv (val W32 xs % ys.getD 0 0)]⟩ 126)] (.slice (some ⟨b3,0,none⟩) 1 1) 1 [val W32 xs % ys.getD 0 0]:=YA b3 1 [val W32 xs % ys.getD 0 0] _ rfl rfl oq
  refine Q9 trivial rfl rfl rfl (fun w hk hs=>YR w _ _ _ _ (hO3.rd.at hk hs Qb) oq) fun w v w' _ _ _ hR=>?_
  obtain⟨k3,hk3,rfl,hn3⟩:=hR
  have jq:=hO3.hd hk3
  rw[← hn3]at jq
  have hl3:(nrm [val W32 xs % ys.getD 0 0]).length=k3:=jq.len
  have hmod:=Nat.mod_lt (val W32 xs) h0
  repeat' first|apply jN|apply jT|refine Q0 ?_|apply jV|apply jR
  refine QN rfl rfl (fun a w' st=>⟨st.kp,⟨N1,_,_,_,zs,nrm [val W32 xs % ys.getD 0 0],rfl,st.bI (N:=N1++[(b3,.cells ⟨[uv (val W32 xs % ys.getD 0 0)]⟩ 126)]) rfl ?_,bG,.inl (by rw[hl3];exact jq),hz1,dA.of fun x hx'=>?_,?_,?_⟩⟩)
  ·refine⟨[],?_⟩
   simp only[Vh,Vr]
   exact List.perm_append_comm (l₁:=[_])
  ·rw[List.mem_singleton]at hx'
   rw[hx']
   show _<4294967296
   omega
  ·rw[hvy,X0,aP,Va]
   exact(Nat.div_add_mod _ _).symm
  ·rw[hvy,X0];exact hmod
 have hne:ys≠[]:=fun e=>by subst e;simp at hly;omega
 have htlt:ys.getD (k-1) 0<4294967296:=QD (b:=W32) dq hy.lt (k-1)
 have ht0:0<ys.getD (k-1) 0:=by
  refine Nat.pos_of_ne_zero fun e=>?_
  have h1:=Q4r (b:=W32) dq hy.nrm hne
  rw[hly]at h1
  have h2:=Y1 W32 ys (k-1) oq
  rw[Z6 oq,e,Z5 oq]at h2
  have h3:=Yq hy.lt (k:=k-1) oq
  simp only[Nat.mul_zero,Vp]at h2
  omega
 repeat' first|apply jS|apply jO|apply jN|apply jT|refine Q1 ?_|refine Q0 ?_|refine QW (h:=?_)|(refine Qg (h1:=?_) (h2:=?_)<;>intro hc<;>try omega)|(refine Zm (h1:=?_) (h2:=?_)<;>intro hc<;>try omega)|apply jK|refine Q4 rfl ?_|apply jB
 refine Qn (ι:=Nat) ⟨fun s=>[(8,nv s),(0,v),(1,u)],fun _=>[],fun s=>s≤31∧ys.getD (k-1) 0*2 ^ s<4294967296,fun s=>32-s⟩ 0 ⟨by omega,by simpa using htlt⟩ aC QE (fun s hs=>?_)
 obtain⟨hs31,hts⟩:=hs
 dsimp only at hs31 hts ⊢
 by_cases htop:ys.getD (k-1) 0*2 ^ s / 2 ^ 31=0
 ·have hsm:ys.getD (k-1) 0*2 ^ s<2147483648:=by
   have:=(Nat.div_eq_zero_iff).1 htop
   omega
  have hs30:s+1≤31:=by
   refine Ve fun h=>?_
   obtain rfl:s=31:=by omega
   have:=V1 (2 ^ 31) ht0
   omega
  repeat' first|apply jS|refine Q1 ?_|refine Yf (h:=?_)|refine Zd (h:=?_)|refine Yr (h:=?_)|refine QW (h:=?_)|refine Q3n (h:=?_)|apply jO
  rw[Nat.mod_eq_of_lt (show ys.getD (k-1) 0*2 ^ s<18446744073709551616 by omega)]
  refine Xx (j:=31) rfl rfl rfl rfl oq ?_
  rw[htop]
  repeat' first|apply jO|apply jN|apply jT|refine Q1 ?_|refine Q0 ?_|refine Qd ?_|(refine Zm (h1:=?_) (h2:=?_)<;>intro hc<;>try omega)|apply jK|refine Q5 rfl ?_|apply jB|apply jW
  exact Q8 (s+1) ⟨hs30,by rw[V9, ← Vk];omega⟩ aW aC QE
 repeat' first|apply jS|refine Q1 ?_|refine Yf (h:=?_)|refine Zd (h:=?_)|refine Yr (h:=?_)|refine QW (h:=?_)|refine Q3n (h:=?_)|apply jO
 rw[Nat.mod_eq_of_lt (show ys.getD (k-1) 0*2 ^ s<18446744073709551616 by omega)]
 refine Xx (j:=31) rfl rfl rfl rfl oq ?_
 repeat' first|apply jS|apply jO|apply jN|apply jT|refine Q1 ?_|(refine Zm (h1:=?_) (h2:=?_)<;>intro hc<;>try omega)|apply jU|apply jE|refine Q4 rfl ?_|apply Qc
 refine Qt (A:=[]) rfl trivial rfl rfl rfl (fun w hk hs=>Qfv w _ _ _ _ (hv.mono hk) hx.lt hs31 oq) fun w v w' _ _ _ hR=>?_
 obtain⟨Nu,us0,hNu,hOu,hu0,hutop,hval0⟩:=hR
 obtain⟨bu,iI,gI,rfl,rfl,hcu,hru,hmu⟩:=hOu.blk oq
 refine⟨_,hNu,?_⟩
 repeat' first|refine Q1 ?_|fail
 refine Qt (A:=[_]) rfl trivial rfl rfl rfl (fun w hk' hs=>Qfv w _ _ _ _ (hu.mono hk') hy.lt hs31 oq) fun w v w' _ _ _ hR=>?_
 obtain⟨Nv,vs0,hNv,hOv,hv0,_,hvalv⟩:=hR
 obtain⟨bv,capv,restv,rfl,rfl,hcv,hrv,hmv⟩:=hOv.blk oq
 refine⟨_,hNv,?_⟩
 skip
 refine Q9 trivial rfl rfl rfl (fun w hk hs=>YR w _ _ _ _ (hOv.rd.at hk hs Qb) oq) fun w v w' _ _ _ hR=>?_
 obtain⟨kv,hkv,rfl,hnv⟩:=hR
 have hOv1:=hOv.hd hkv
 rw[← hnv]at hOv1
 have hDv:dA W32 (nrm vs0):=dA.of hv0
 have hVv:val W32 (nrm vs0)=2 ^ s*val W32 ys:=by rw[Zo,hvalv]
 obtain⟨hlv,hVge⟩:=Qdq hs31 hly hk0 hy hts hDv hVv
 obtain rfl:kv=k:=by rw[← hlv];exact hOv1.len.symm
 have hlu0:=hOu.len
 have hV0:0<val W32 (nrm vs0):=by rw[hVv];exact Nat.mul_pos (Nat.pow_pos dq) h0
 have hbig:=Qdp hu0 hlu0 oq hkn hutop hVge
 generalize nrm vs0=vs at hnv hOv1 hDv hVv hlv hVge hV0 hbig
 clear hvalv hnv
 repeat' first|apply jS|apply jO|apply jN|refine Q1 ?_|refine Q0 ?_|refine ZC (h:=?_)|refine WQ (h:=?_)|apply jT
 refine Xf (n:=n+1-kv) rfl rfl rfl rfl rfl oq oq (fun bq=>?_)
 have hOq:=Y0 bq (n+1-kv) (by simp only[maxLen];omega)
 have htv:vs.getD (kv-1) 0<4294967296:=QD (b:=W32) dq hDv.lt (kv-1)
 have hsv:vs.getD (kv-2) 0<4294967296:=QD (b:=W32) dq hDv.lt (kv-2)
 have htv0:0<vs.getD (kv-1) 0:=by
  refine Nat.pos_of_ne_zero fun e=>?_
  have h2:=Y1 W32 vs (kv-1) oq
  rw[Z6 oq,e,Z5 oq]at h2
  have h3:=Yq hDv.lt (k:=kv-1) oq
  simp only[Nat.mul_zero,Vp]at h2
  have:=Nat.le_mul_of_pos_left (W32 ^ (kv-1)) (Nat.pow_pos (n:=s) (show 0<2 by decide))
  have hVge':2 ^ s*W32 ^ (kv-1)≤val W32 vs:=hVge
  omega
 repeat' first|apply jS|apply jO|apply jD|apply jN|apply jT|refine Q1 ?_|refine Q0 ?_|refine ZC (h:=?_)|refine Yf (h:=?_)|refine Q7e (h:=?_)|refine Zd (h:=?_)|refine Yr (h:=?_)|apply jB
 rw[show (Value.int IntKind.i64 ((n+1-kv-1:Nat):Int))=iv (((n+1-kv:Nat):Int)-1) from by congr 1;omega]
 have hvs:vs.length=kv:=hlv
 refine Qn (ι:=Nat × List Nat × aj × List Nat) ⟨fun z=>[(14,iv ((z.1:Int)-1)),(13,uv (vs.getD (kv-2) 0)),(12,uv (vs.getD (kv-1) 0)),(11,.slice (some ⟨bq,0,none⟩) (n+1-kv) (n+1-kv)),(10,.slice (some ⟨bv,0,none⟩) kv capv),(9,.slice (some ⟨bu,0,none⟩) (n+1) iI),(8,nv s)],
  fun z=>(bu,.cells (ZJ z.2.1 gI) 126 (0,0))::(bv,.cells (ZJ vs0 restv) 126 (0,0))::(z.2.2.1++[]),
  fun z=>z.1≤n+1-kv∧z.2.1.length=n+1∧(∀ x∈z.2.1,x<W32)∧aZ z.2.2.1 (.slice (some ⟨bq,0,none⟩) (n+1-kv) (n+1-kv)) (n+1-kv) z.2.2.2∧(∀ x∈z.2.2.2,x<W32)∧val W32 (z.2.1.drop z.1)<val W32 vs∧val W32 z.2.1+val W32 vs*(W32 ^ z.1*val W32 (z.2.2.2.drop z.1))=2 ^ s*val W32 xs,fun z=>z.1⟩
  (n + 1 - kv, us0, _, _) ⟨V7 _, hlu0, hu0, hOq, fun x hx => by obtain ⟨a, _, rfl⟩ := List.mem_map.1 hx; decide, hbig, by
   show val W32 us0+val W32 vs*(W32 ^ (n+1-kv)*val W32 ((tab (n+1-kv) fun _=>0).drop (n+1-kv)))=_
   rw[Z5 (by simp[tab]),Nat.mul_zero,Nat.mul_zero,Vp,hval0]⟩ aC (by exact HSub.at 1 rfl (HSub.at 1 rfl (HSub.at 0 rfl (HSub.nil _)))) (fun z hz=>?_)
 clear hOu hOq hlu0 hu0 hutop hval0 hbig hNu
 obtain⟨j,us,Nq,qs⟩:=z
 obtain⟨hj,hlu,hu0,hOq,hqs,hdr,hval⟩:=hz
 dsimp only at hj hlu hu0 hOq hqs hdr hval ⊢
 have hOu:aZ [(bu,.cells (ZJ us gI) 126 (0,0))] (.slice (some ⟨bu,0,none⟩) (n+1) iI) (n+1) us:=Q2g hlu hcu hru hmu
 have hlq:=hOq.len
 rcases j with _|i
 ·repeat' first|apply jS|apply jO|apply jN|apply jT|refine Q1 ?_|(refine Zs (h1:=?_) (h2:=?_)<;>intro hc<;>try omega)|apply jU|apply jE|refine Q4 rfl ?_|apply Qc
  refine Q9 trivial rfl rfl rfl (fun w hk hs=>YR w _ _ _ _ (hOq.rd.at hk hs Qb) oq) fun w v w' _ _ _ hR=>?_
  obtain⟨kq,hkq,rfl,hnq⟩:=hR
  have iJ:=hOq.hd hkq
  rw[← hnq]at iJ
  have jG:(nrm qs).length=kq:=iJ.len
  repeat' first|refine Q1 ?_|fail
  refine Q9 trivial rfl rfl rfl (fun w hk hs=>YR w _ _ _ _ (hOu.rd.at hk hs Qb) oq) fun w v w' _ _ _ hR=>?_
  obtain⟨ku,hku,rfl,hnu⟩:=hR
  have hOu':=hOu.hd hku
  rw[← hnu]at hOu'
  have hDu:dA W32 (nrm us):=dA.of hu0
  repeat' first|refine Q1 ?_|fail
  refine Qt (A:=[_,_]) rfl trivial rfl rfl rfl (fun w hk hs=>Qfr w _ _ _ _ (hOu'.rd.at hk hs Qb) hDu.lt hs31 oq) fun w v w' _ _ _ hR=>?_
  obtain⟨Nr,rs,hNr,hOr,hr,hvr⟩:=hR
  refine⟨Nr,hNr,?_⟩
  rw[Zo]at hvr
  simp only[List.drop_zero,Nat.pow_zero,Nat.one_mul]at hdr hval
  rw[hVv]at hval hdr
  have hfin:=Qfd (Nat.pow_pos dq) hval hdr
  repeat' first|apply jN|apply jT|refine Q0 ?_|apply jR
  exact QN rfl rfl (fun a w' st=>⟨st.kp,⟨Nq,Nr,_,_,nrm qs,rs,rfl,st.bI rfl (by
   refine HSub.trans ?_ (HSub.skip (HSub.skip (HSub.refl _)))
   exact⟨[],by simpa using List.perm_append_comm⟩),by rw[jG];exact iJ,.inl hOr,dA.of hqs,hr,by rw[Zo,hvr];exact hfin.1,by rw[hvr];exact hfin.2⟩⟩)
 have hiv:iv (((i+1:Nat):Int)-1)=nv i:=by
  show iv _=iv _
  congr 1
  omega
 rw[hiv]
 have hst:=Qln (W:=W32) hu0 hDv.lt hlv oq (show i+kv<us.length by omega) hdr
 have ha:us.getD (i+kv) 0<4294967296:=QD (b:=W32) dq hu0 _
 have hb:us.getD (i+kv-1) 0<4294967296:=QD (b:=W32) dq hu0 _
 have hcc:us.getD (i+kv-2) 0<4294967296:=QD (b:=W32) dq hu0 _
 repeat' first|apply jS|apply jO|apply jD|apply jN|apply jT|refine Q1 ?_|refine Q0 ?_|refine ZC (h:=?_)|refine Z8 (h:=?_)|refine Yf (h:=?_)|refine Q3o (h:=?_)|refine Qa4 (h:=?_)|refine Zd (h:=?_)|refine Yr (h:=?_)|refine Qa3 (h:=?_)|refine Qa2 (h:=?_)|(refine Zs (h1:=?_) (h2:=?_)<;>intro hc<;>try omega)|apply jK|refine Q5 rfl ?_|apply jB
 obtain⟨hUlt,⟨lv,hlv1,hVeq⟩,⟨lu,hlu1,hUeq⟩,hhead,htail⟩:=hst
 have hq0:=Qia htv0 hVeq hUeq hcc hlu1
 refine Qn (ι:=Nat × Nat) ⟨fun y=>[(17,uv y.1),(18,uv y.2),(15,nv (i+kv)),(14,nv i),(13,uv (vs.getD (kv-2) 0)),(12,uv (vs.getD (kv-1) 0)),(11,.slice (some ⟨bq,0,none⟩) (n+1-kv) (n+1-kv)),(10,.slice (some ⟨bv,0,none⟩) kv capv),(9,.slice (some ⟨bu,0,none⟩) (n+1) iI),(8,nv s)],
  fun _=>(bu,.cells (ZJ us gI) 126 (0,0))::(bv,.cells (ZJ vs0 restv) 126 (0,0))::(Nq++[]),
  fun y=>us.getD (i+kv) 0*4294967296+us.getD (i+kv-1) 0=y.1*vs.getD (kv-1) 0+y.2∧val W32 (us.drop i) / val W32 vs≤y.1,fun y=>y.1⟩
  ((us.getD (i+kv) 0*4294967296+us.getD (i+kv-1) 0) / vs.getD (kv-1) 0,(us.getD (i+kv) 0*4294967296+us.getD (i+kv-1) 0) % vs.getD (kv-1) 0) ⟨by dsimp only;rw[Va _ (vs.getD (kv-1) 0)];exact(Nat.div_add_mod _ _).symm,hq0⟩ aC QE (fun y hyy=>?_)
 obtain⟨G,R⟩:=y
 obtain⟨hGR,hqG⟩:=hyy
 dsimp only at hGR hqG ⊢
 have hGle:G≤G*vs.getD (kv-1) 0:=Nat.le_mul_of_pos_right _ htv0
 have hqW:val W32 (us.drop i) / val W32 vs<4294967296:=Nat.div_lt_of_lt_mul hUlt
 have hdecr:∀ g r,g*vs.getD (kv-1) 0+r=G*vs.getD (kv-1) 0+R→g+1=G→r=R+vs.getD (kv-1) 0:=by
  intro g r h1 h2
  rw[← h2,Vl,Nat.one_mul]at h1
  omega
 have hround:1≤G→us.getD (i+kv) 0*4294967296+us.getD (i+kv-1) 0=(G-1)*vs.getD (kv-1) 0+(R+vs.getD (kv-1) 0):=by
  intro h1
  have:G*vs.getD (kv-1) 0=(G-1)*vs.getD (kv-1) 0+vs.getD (kv-1) 0:=by
   conv=>lhs;rw[show G=G-1+1 by omega,Vl,Nat.one_mul]
  omega
 by_cases hg:4294967295<G
 ·repeat' first|apply jS|apply jO|apply jN|apply jT|refine Q1 ?_|refine Q0 ?_|refine Qp ?_|refine Q11 (h:=?_)|refine Qaa (h:=?_)|(refine QU (h1:=?_) (h2:=?_)<;>intro hc<;>try omega)|apply jK|refine Q5 rfl ?_|apply jB|refine QA ?_|apply jW
  exact Q8 (G-1,R+vs.getD (kv-1) 0) ⟨hround oq,by dsimp only;omega⟩ aW aC QE
 have hgs:=Q7t (show G<4294967296 by omega) hsv
 have hout:G*(vs.getD (kv-1) 0*W32+vs.getD (kv-2) 0)≤(us.getD (i+kv) 0*W32+us.getD (i+kv-1) 0)*W32+us.getD (i+kv-2) 0∨(R≤4294967295∧R*4294967296+us.getD (i+kv-2) 0<G*vs.getD (kv-2) 0):=by
  by_cases h:R≤4294967295∧R*4294967296+us.getD (i+kv-2) 0<G*vs.getD (kv-2) 0
  ·exact .inr h
  ·refine .inl (Qo3 hGR (by show G<4294967296;omega) hsv ?_)
   show 4294967296≤R∨G*vs.getD (kv-2) 0≤R*4294967296+us.getD (i+kv-2) 0
   omega
 by_cases hdec:R≤4294967295∧R*4294967296+us.getD (i+kv-2) 0<G*vs.getD (kv-2) 0
 ·obtain⟨hR1,hR2⟩:=hdec
  have hG1:1≤G:=by
   rcases Nat.eq_zero_or_pos G with h|h
   ·subst h;rw[Nat.zero_mul]at hR2;omega
   ·exact h
  have hqlt:val W32 (us.drop i) / val W32 vs<G:=by
   refine Qo5 (V2:=vs.getD (kv-1) 0*4294967296+vs.getD (kv-2) 0) (U3:=(us.getD (i+kv) 0*4294967296+us.getD (i+kv-1) 0)*4294967296+us.getD (i+kv-2) 0) hVeq hUeq hlu1 ?_
   rw[hGR,Vm,Vl,Vk G]
   omega
  repeat' first|apply jS|apply jO|apply jN|apply jT|refine Q1 ?_|refine Q0 ?_|refine Q7e (h:=?_)|refine Qp ?_|refine Qq ?_|refine Q3o (h:=?_)|refine Qa4 (h:=?_)|refine Zd (h:=?_)|refine Yr (h:=?_)|refine Q11 (h:=?_)|refine Qa7 (h:=?_)|refine Qaa (h:=?_)|(refine Xo (h1:=?_) (h2:=?_)<;>intro hc<;>try omega)|(refine QU (h1:=?_) (h2:=?_)<;>intro hc<;>try omega)|apply jK|refine Q5 rfl ?_|apply jB|apply jW
  exact Q8 (G-1,R+vs.getD (kv-1) 0) ⟨hround hG1,by dsimp only;omega⟩ aW aC QE
 have hout1:=hout.resolve_right hdec
 have hV2:4294967296≤vs.getD (kv-1) 0*W32+vs.getD (kv-2) 0:=by
  have h1:1*4294967296≤vs.getD (kv-1) 0*4294967296:=V1 _ htv0
  exact V0 oq (Nat.le_add_right _ _)
 have hGq:=Qo4 (g:=G) hVeq hlv1 (V6 dq hV2) hUeq hout1 (V0 oq (Nat.le_succ_of_le hV2))
 by_cases hRm:R≤4294967295
 ·have hR2:¬R*4294967296+us.getD (i+kv-2) 0<G*vs.getD (kv-2) 0:=fun h=>hdec ⟨hRm,h⟩
  repeat' first|apply jS|apply jO|apply jN|apply jT|refine Q1 ?_|refine Q7e (h:=?_)|refine Qp ?_|refine Qq ?_|refine Q3o (h:=?_)|refine Qa4 (h:=?_)|refine Zd (h:=?_)|refine Yr (h:=?_)|refine Qa7 (h:=?_)|(refine Xo (h1:=?_) (h2:=?_)<;>intro hc<;>try omega)|(refine QU (h1:=?_) (h2:=?_)<;>intro hc<;>try omega)|apply jU|apply jE|refine Q4 rfl ?_|apply Qc
  refine Q51 (o':=i) rfl rfl rfl rfl (Vq _) oq oq ?_
  repeat' first|refine Q1 ?_|fail
  refine Q9 trivial rfl rfl rfl (fun w hk hs=>by
   have hw:=Q71 (o:=i) (k:=n+1-i) (cc:=iI-i) (Q2i hs 0 rfl) oq oq
   rw[Vd (by simp;omega)]at hw
   exact Qjz w bu i (n+1-i) (iI-i) kv G (us.drop i) vs _ hw (hOv1.rd.at hk hs Qb) oq (fun x hx=>hu0 x (List.mem_of_mem_drop hx)) hDv.lt oq oq) fun w v w' _ _ _ hR=>?_
  subst hR
  rw[hhead]
  by_cases hl:val W32 (us.drop i)<val W32 vs*G
  ·rw[decide_eq_true hl]
   have hD:G-1=val W32 (us.drop i) / val W32 vs:=by
    have h1:=Nat.div_lt_of_lt_mul hl
    generalize val W32 (us.drop i) / val W32 vs=q at *
    omega
   have hG1:1≤G:=by
    have h1:=Nat.div_lt_of_lt_mul hl
    generalize val W32 (us.drop i) / val W32 vs=q at *
    omega
   have hDlt:G-1<4294967296:=by omega
   repeat' first|apply jS|apply jO|apply jN|apply jT|refine Q1 ?_|refine Q0 ?_|refine Qaa (h:=?_)|refine Q5 rfl ?_
   refine Q51 (o':=i) rfl rfl rfl rfl (Vq _) oq oq ?_
   repeat' first|refine Q1 ?_|fail
   refine XN (A:=[]) (N:=[_]) (B:=(bv,.cells (ZJ vs0 restv) 126 (0,0))::(Nq++[])) rfl trivial rfl rfl rfl (fun w hk hs=>by
    have c:=Qbb w bu i iI kv (G-1) capv us vs _ gI (Q2i hs 0 rfl) oq (hOv1.rd.at hk hs Qb) (fun _=>by simpa using (Qid hs 1 0 rfl rfl dq)) oq hu0 hDv.lt hDlt oq (by rw[hhead,hD];exact Nat.mul_div_le _ _) oq
    rw[hlu]at c
    exact c) fun w v w' _ _ _ hR=>?_
   obtain⟨zs,hzl,hz,hvz,hbl⟩:=hR
   refine⟨[(bu,.cells (ZJ (put i (kv+1) zs us) gI) 126 (0,0))],rfl,fun p hp=>by cases List.mem_singleton.1 hp;exact hbl,?_⟩
   repeat' first|apply jO|apply jN|refine Q1 ?_|refine Zd (h:=?_)|apply jT
   refine Xw (A:=[_,_]) hOq rfl rfl trivial rfl rfl oq (fun Nq' iJ=>?_)
   repeat' first|apply jO|apply jN|apply jT|refine Q1 ?_|refine Q0 ?_|refine X3 (h:=?_)|apply jW
   have hput:=Q5j (b:=W32) (zs:=zs) (show i+(kv+1)≤us.length by omega) htail
   rw[hhead]at hvz
   refine Q8 (i,put i (kv+1) zs us,Nq',_) ⟨by dsimp only;omega,by dsimp only;rw[Wk oq hzl];exact hlu,Qag dq hu0 hz.lt,iJ,Yj hqs hDlt,?_,?_⟩ aW aC QE
   ·dsimp only
    rw[hput]
    rw[hD]at hvz
    have hm:=Nat.mod_lt (val W32 (us.drop i)) hV0
    have hdm:=Nat.div_add_mod (val W32 (us.drop i)) (val W32 vs)
    omega
   ·dsimp only
    have e1:=Y1 W32 (put i (kv+1) zs us) i (by rw[Wk oq hzl];omega)
    rw[Q2s oq,hput]at e1
    rw[e1,Z6 (l:=qs.set i _) (by simp;omega),QP oq,Xj]
    have e2:=Y1 W32 us i oq
    rw[e2,V9]at hval
    exact Qau hvz.symm hval
  ·rw[decide_eq_false hl]
   have hD:G=val W32 (us.drop i) / val W32 vs:=by
    have h1:G≤val W32 (us.drop i) / val W32 vs:=(Nat.le_div_iff_mul_le hV0).2 (by rw[Va];omega)
    exact Nat.le_antisymm h1 hqG
   have hDlt:G<4294967296:=by omega
   repeat' first|apply jS|apply jO|apply jN|apply jT|refine Q1 ?_|apply jK|refine Q4 rfl ?_
   refine Q51 (o':=i) rfl rfl rfl rfl (Vq _) oq oq ?_
   repeat' first|refine Q1 ?_|fail
   refine XN (A:=[]) (N:=[_]) (B:=(bv,.cells (ZJ vs0 restv) 126 (0,0))::(Nq++[])) rfl trivial rfl rfl rfl (fun w hk hs=>by
    have c:=Qbb w bu i iI kv (G) capv us vs _ gI (Q2i hs 0 rfl) oq (hOv1.rd.at hk hs Qb) (fun _=>by simpa using (Qid hs 1 0 rfl rfl dq)) oq hu0 hDv.lt hDlt oq (by rw[hhead,hD];exact Nat.mul_div_le _ _) oq
    rw[hlu]at c
    exact c) fun w v w' _ _ _ hR=>?_
   obtain⟨zs,hzl,hz,hvz,hbl⟩:=hR
   refine⟨[(bu,.cells (ZJ (put i (kv+1) zs us) gI) 126 (0,0))],rfl,fun p hp=>by cases List.mem_singleton.1 hp;exact hbl,?_⟩
   repeat' first|apply jO|apply jN|refine Q1 ?_|refine Zd (h:=?_)|apply jT
   refine Xw (A:=[_,_]) hOq rfl rfl trivial rfl rfl oq (fun Nq' iJ=>?_)
   repeat' first|apply jO|apply jN|apply jT|refine Q1 ?_|refine Q0 ?_|refine X3 (h:=?_)|apply jW
   have hput:=Q5j (b:=W32) (zs:=zs) (show i+(kv+1)≤us.length by omega) htail
   rw[hhead]at hvz
   refine Q8 (i,put i (kv+1) zs us,Nq',_) ⟨by dsimp only;omega,by dsimp only;rw[Wk oq hzl];exact hlu,Qag dq hu0 hz.lt,iJ,Yj hqs hDlt,?_,?_⟩ aW aC QE
   ·dsimp only
    rw[hput]
    rw[hD]at hvz
    have hm:=Nat.mod_lt (val W32 (us.drop i)) hV0
    have hdm:=Nat.div_add_mod (val W32 (us.drop i)) (val W32 vs)
    omega
   ·dsimp only
    have e1:=Y1 W32 (put i (kv+1) zs us) i (by rw[Wk oq hzl];omega)
    rw[Q2s oq,hput]at e1
    rw[e1,Z6 (l:=qs.set i _) (by simp;omega),QP oq,Xj]
    have e2:=Y1 W32 us i oq
    rw[e2,V9]at hval
    exact Qau hvz.symm hval
 ·repeat' first|apply jS|apply jO|apply jN|apply jT|refine Q1 ?_|refine Qq ?_|(refine Xo (h1:=?_) (h2:=?_)<;>intro hc<;>try omega)|(refine QU (h1:=?_) (h2:=?_)<;>intro hc<;>try omega)|apply jU|refine Q4 rfl ?_|apply Qc|refine QA ?_|apply jE
  refine Q51 (o':=i) rfl rfl rfl rfl (Vq _) oq oq ?_
  repeat' first|refine Q1 ?_|fail
  refine Q9 trivial rfl rfl rfl (fun w hk hs=>by
   have hw:=Q71 (o:=i) (k:=n+1-i) (cc:=iI-i) (Q2i hs 0 rfl) oq oq
   rw[Vd (by simp;omega)]at hw
   exact Qjz w bu i (n+1-i) (iI-i) kv G (us.drop i) vs _ hw (hOv1.rd.at hk hs Qb) oq (fun x hx=>hu0 x (List.mem_of_mem_drop hx)) hDv.lt oq oq) fun w v w' _ _ _ hR=>?_
  subst hR
  rw[hhead]
  by_cases hl:val W32 (us.drop i)<val W32 vs*G
  ·rw[decide_eq_true hl]
   have hD:G-1=val W32 (us.drop i) / val W32 vs:=by
    have h1:=Nat.div_lt_of_lt_mul hl
    generalize val W32 (us.drop i) / val W32 vs=q at *
    omega
   have hG1:1≤G:=by
    have h1:=Nat.div_lt_of_lt_mul hl
    generalize val W32 (us.drop i) / val W32 vs=q at *
    omega
   have hDlt:G-1<4294967296:=by omega
   repeat' first|apply jS|apply jO|apply jN|apply jT|refine Q1 ?_|refine Q0 ?_|refine Qaa (h:=?_)|refine Q5 rfl ?_
   refine Q51 (o':=i) rfl rfl rfl rfl (Vq _) oq oq ?_
   repeat' first|refine Q1 ?_|fail
   refine XN (A:=[]) (N:=[_]) (B:=(bv,.cells (ZJ vs0 restv) 126 (0,0))::(Nq++[])) rfl trivial rfl rfl rfl (fun w hk hs=>by
    have c:=Qbb w bu i iI kv (G-1) capv us vs _ gI (Q2i hs 0 rfl) oq (hOv1.rd.at hk hs Qb) (fun _=>by simpa using (Qid hs 1 0 rfl rfl dq)) oq hu0 hDv.lt hDlt oq (by rw[hhead,hD];exact Nat.mul_div_le _ _) oq
    rw[hlu]at c
    exact c) fun w v w' _ _ _ hR=>?_
   obtain⟨zs,hzl,hz,hvz,hbl⟩:=hR
   refine⟨[(bu,.cells (ZJ (put i (kv+1) zs us) gI) 126 (0,0))],rfl,fun p hp=>by cases List.mem_singleton.1 hp;exact hbl,?_⟩
   repeat' first|apply jO|apply jN|refine Q1 ?_|refine Zd (h:=?_)|apply jT
   refine Xw (A:=[_,_]) hOq rfl rfl trivial rfl rfl oq (fun Nq' iJ=>?_)
   repeat' first|apply jO|apply jN|apply jT|refine Q1 ?_|refine Q0 ?_|refine X3 (h:=?_)|apply jW
   have hput:=Q5j (b:=W32) (zs:=zs) (show i+(kv+1)≤us.length by omega) htail
   rw[hhead]at hvz
   refine Q8 (i,put i (kv+1) zs us,Nq',_) ⟨by dsimp only;omega,by dsimp only;rw[Wk oq hzl];exact hlu,Qag dq hu0 hz.lt,iJ,Yj hqs hDlt,?_,?_⟩ aW aC QE
   ·dsimp only
    rw[hput]
    rw[hD]at hvz
    have hm:=Nat.mod_lt (val W32 (us.drop i)) hV0
    have hdm:=Nat.div_add_mod (val W32 (us.drop i)) (val W32 vs)
    omega
   ·dsimp only
    have e1:=Y1 W32 (put i (kv+1) zs us) i (by rw[Wk oq hzl];omega)
    rw[Q2s oq,hput]at e1
    rw[e1,Z6 (l:=qs.set i _) (by simp;omega),QP oq,Xj]
    have e2:=Y1 W32 us i oq
    rw[e2,V9]at hval
    exact Qau hvz.symm hval
  ·rw[decide_eq_false hl]
   have hD:G=val W32 (us.drop i) / val W32 vs:=by
    have h1:G≤val W32 (us.drop i) / val W32 vs:=(Nat.le_div_iff_mul_le hV0).2 (by rw[Va];omega)
    exact Nat.le_antisymm h1 hqG
   have hDlt:G<4294967296:=by omega
   repeat' first|apply jS|apply jO|apply jN|apply jT|refine Q1 ?_|apply jK|refine Q4 rfl ?_
   refine Q51 (o':=i) rfl rfl rfl rfl (Vq _) oq oq ?_
   repeat' first|refine Q1 ?_|fail
   refine XN (A:=[]) (N:=[_]) (B:=(bv,.cells (ZJ vs0 restv) 126 (0,0))::(Nq++[])) rfl trivial rfl rfl rfl (fun w hk hs=>by
    have c:=Qbb w bu i iI kv (G) capv us vs _ gI (Q2i hs 0 rfl) oq (hOv1.rd.at hk hs Qb) (fun _=>by simpa using (Qid hs 1 0 rfl rfl dq)) oq hu0 hDv.lt hDlt oq (by rw[hhead,hD];exact Nat.mul_div_le _ _) oq
    rw[hlu]at c
    exact c) fun w v w' _ _ _ hR=>?_
   obtain⟨zs,hzl,hz,hvz,hbl⟩:=hR
   refine⟨[(bu,.cells (ZJ (put i (kv+1) zs us) gI) 126 (0,0))],rfl,fun p hp=>by cases List.mem_singleton.1 hp;exact hbl,?_⟩
   repeat' first|apply jO|apply jN|refine Q1 ?_|refine Zd (h:=?_)|apply jT
   refine Xw (A:=[_,_]) hOq rfl rfl trivial rfl rfl oq (fun Nq' iJ=>?_)
   repeat' first|apply jO|apply jN|apply jT|refine Q1 ?_|refine Q0 ?_|refine X3 (h:=?_)|apply jW
   have hput:=Q5j (b:=W32) (zs:=zs) (show i+(kv+1)≤us.length by omega) htail
   rw[hhead]at hvz
   refine Q8 (i,put i (kv+1) zs us,Nq',_) ⟨by dsimp only;omega,by dsimp only;rw[Wk oq hzl];exact hlu,Qag dq hu0 hz.lt,iJ,Yj hqs hDlt,?_,?_⟩ aW aC QE
   ·dsimp only
    rw[hput]
    rw[hD]at hvz
    have hm:=Nat.mod_lt (val W32 (us.drop i)) hV0
    have hdm:=Nat.div_add_mod (val W32 (us.drop i)) (val W32 vs)
    omega
   ·dsimp only
    have e1:=Y1 W32 (put i (kv+1) zs us) i (by rw[Wk oq hzl];omega)
    rw[Q2s oq,hput]at e1
    rw[e1,Z6 (l:=qs.set i _) (by simp;omega),QP oq,Xj]
    have e2:=Y1 W32 us i oq
    rw[e2,V9]at hval
    exact Qau hvz.symm hval


section
variable {c:Cx} {Q:Exit→Act→World→Prop} {m:Mode} {F:ak} {H Hs:aj} {r:List bT} {g:Option (Option Tmp × Bool)} {ns:Bool} {d:Tmp} {ty t t':TypeId} {x y:Operand}

theorem Q8q {vs cs:Array Value} (h:vs.size=cs.size):ZB cs 0 vs.toList=vs:=by
 have key:∀ (l:List Value) (cs:Array Value) (o:Nat),o+l.length=cs.size→(ZB cs o l).toList=cs.toList.take o++l:=by
  intro l
  induction l with
  | nil =>
   intro cs o h
   simp only[List.length_nil,Vp]at h
   rw[ZB,Vh,Vd (by simp[h])]
  | cons v l ih =>
   intro cs o h
   simp only[List.length_cons]at h
   rw[ZB,ih _ _ (by rw[Array.size_setIfInBounds];omega),Array.toList_setIfInBounds]
   have hlt:o<(cs.toList.set o v).length:=by simp;omega
   rw[List.take_succ_eq_append_getElem hlt,List.take_set_of_le (V7 _)]
   simp
 have:=key vs.toList cs 0 (by simp;omega)
 apply Array.ext'
 simpa using this

theorem Q3k {b n:Nat} (k:Nat) {cs vs:Array Value} {T:TypeId} [TN c.P t n] (hg:Qi F g=some true:=by exact rfl) (hx:ev F x=some (.pointer (some ⟨b,0,none⟩)):=by exact rfl) (hy:ev F y=some (.agg vs):=by exact rfl)
  (hb:H[k]?=some (b,.cells cs T (0,0)):=by(first|exact at0|exact at1|exact at2|exact at3|exact at4|exact at5|exact at6|exact at7|exact at8|exact at9)) (hn:vs.size=n:=by exact rfl) (hn':cs.size=n:=by exact rfl) (hv:(vs.toList.all (·.oneCell'))=true:=by exact rfl) (iV:HSub Hs (H.set k (b,.cells vs T (0,0))):=by exact QF) (h:JO c Q (.draw Hs true) r F (H.set k (b,.cells vs T (0,0)))) :
  JO c Q (.draw Hs true) (⟨none,.store t x y,ty,g,.seq,ns⟩::r) F H:=by
 refine⟨⟨rfl,.inr ⟨hg,fun a w st _=>?_⟩⟩⟩
 have hm':(b,Obj.cells cs T (0,0))∈H:=List.mem_of_getElem? hb
 obtain⟨w',h1,h2,h3,h4,h5,h6,h7⟩:=Q3e (P:=c.P) (t:=t) (n:=n) TN.size (o:=0) (v:=.agg vs) (w:=w) (by show vs.size=n;exact hn) (by show ∀ u∈vs.toList,_;exact List.all_eq_true.1 hv) (st.hs.blk _ hm') oq
 have h2:w'.heap[b]?=some (.cells (ZB cs 0 vs.toList) T (0,0)):=h2
 rw[Q8q oq]at h2
 obtain⟨st',hstep⟩:=Qdv st hb h2 h3 h4 h5 h6 h7
 unfold Oper.wp bT.oper
 simp only[execOp,st.fr.ev hx,st.fr.ev hy,Sem.run_bind,h1,Result.andThen_ok,Sem.run_pure]
 exact⟨hstep,F,_,.draw Hs true,st',fun j hj=>.inl (Q66 hb j hj),⟨rfl,fun _=>⟨rfl,iV.aV st'.hs⟩,fun _=>rfl,.inl rfl⟩,h.h⟩

end

theorem Qbu {c:Cx} {Q:Exit→Act→World→Prop} {F:ak} {H:aj} {id:Nat} {ops:Array Oper} (Hs:aj) (iV:HSub Hs H) (i j:Nat) (kd:Nat→Op→Kind) (t1 t2:Nat) (o1 o2:List Nat) (hij:i≠j) (hm:c.P.follows .mixedOrders=true)
  (hB1:Wq c.P kd (edge ops i j) o1 t1=true) (hB2:Wq c.P kd (edge ops j i) o2 t2=true)
  (h1:JO c Q (.draw Hs true) (Ql kd ops t1 o1) F H) (h2:JO c Q (.draw Hs true) (Ql kd ops t2 o2) F H):JC c Q (.raw (.region id ops true)) F H:=⟨fun a w st=>by
 show (Code.region id ops true).wp c.P Q a w
 refine wp_mono ?_ (fun e a w h=>Q4i e a w h)
 have a1:=Wr (Q:=Q) hB1 st (iV.aV st.hs) (by rw[X2];exact h1.h)
 have a2:=Wr (Q:=Q) hB2 st (iV.aV st.hs) (by rw[X2];exact h2.h)
 rw[Q83]at a1 a2
 refine wp_region_draw fun t=>?_
 simp only[Region.schedule,hm,Bool.true_or,if_true]
 rcases Q7o hij _ _ _ (Q8y (ops:=ops) ops.size t (Array.replicate ops.size false))with h|h
 ·obtain⟨t',ht⟩:=Q69 _ _ _ h
  have:=wpAny_sound ops.size t' _ a _ a1
  rw[ht]at this
  exact YW _ _ _ this
 ·obtain⟨t',ht⟩:=Q69 _ _ _ h
  have:=wpAny_sound ops.size t' _ a _ a2
  rw[ht]at this
  exact YW _ _ _ this⟩


def fD (v:Value) (a:Int) (k:Nat):Prop:=∃ p l,v=wv p l∧l.length≤k∧a=bC p (bV (bf l))
theorem Qmq {l:List UInt8}:∀ x∈bf l,x<256:=fun x hx=>by
 obtain⟨a,_,rfl⟩:=List.mem_map.1 hx
 exact UInt8.toNat_lt a
theorem QZ {l:List UInt8} {k:Nat} (h:l.length≤k):bV (bf l)<256 ^ k:=by
 have h1:=Qmo (Qmq (l:=l))
 rw[Xt]at h1
 exact V6 h1 (V4 dq h)
theorem fD.lt {v:Value} {a:Int} {k:Nat} (h:fD v a k):a.natAbs<256 ^ k:=by
 obtain⟨p,l,rfl,hl,rfl⟩:=h
 rw[YY]
 exact QZ hl
theorem fD.mono {v:Value} {a:Int} {k k':Nat} (h:fD v a k) (hk:k≤k'):fD v a k':=by
 obtain⟨p,l,rfl,hl,rfl⟩:=h
 exact⟨p,l,rfl,by omega,rfl⟩
theorem QC {a:Int} {k:Nat} (h:a.natAbs<256 ^ k):fD (Wv a) a k :=
 ⟨_,_,rfl,Qi4 h,by rw[Q8k,Qha]⟩
theorem Yz {zs:List Nat} {l:List UInt8} {k:Nat} (hz:dA W32 zs) (hv:val W32 zs=bV (bf l)) (hl:l.length≤k):zs.length≤k / 4+1:=by
 refine hz.bM dq ?_
 rw[hv]
 exact V6 (QZ hl) (by rw[show W32=256 ^ 4 from rfl, ← Nat.pow_mul];exact V4 dq oq)

theorem Q9d (w:World) (v:Value) (a:Int) (k:Nat) (hv:fD v a k) (hk:k≤30000000000000) :
  Calls Tryz.prog 157 #[v] w (aQ fun r w'=>Kp [] w w'∧r=Wv (-a)):=by
 obtain⟨p,l,rfl,hl1,rfl⟩:=hv
 refine Qa [⟨1,1,[0,2,3,4,1,5,6],[]⟩] [] aA [] Tryz.func157 rfl mixed (by kernel_rfl) Tryz.ntmps157 Tryz.results157 rfl ⟨by simp,by simp⟩ aA ?_
 simp only[toS,Qe,Qx,Qo,Qr,ay,Ql,Qy,aB]
 repeat' first|apply jS|apply jO|apply jD|apply jN|refine Q2 ?_|refine Q7 ?_|refine Qm ?_|refine QG ?_|refine Qh fun _=>?_|refine QM (h:=fun _=>?_)|apply jT
 refine Qt (A:=[_,_]) rfl trivial rfl rfl rfl (fun w hk hs=>Q4n w p l oq) fun w v w' _ _ _ hR=>?_
 obtain⟨N1,zs1,hN1,bG,hz1,aP⟩:=hR
 refine⟨N1,hN1,?_⟩
 have jv:=Yz hz1 aP hl1
 skip
 refine Q9 trivial rfl rfl rfl (fun w hk hs=>Yh w _ _ zs1 (!p) (bG.rd.at hk hs Qb) hz1.lt oq) fun w v w' _ _ _ hR=>?_
 subst hR
 repeat' first|apply jN|apply jT|refine Q6 ?_|refine Q6 ?_|apply jR
 exact Z0 0 rfl rfl rfl (fun a w' st=>⟨st.kp,by show Wv (bC (!p) (val W32 zs1))=_;rw[aP,Qdr]⟩)

theorem Qg7 (w:World) (v:Value) (a:Int) (k:Nat) (hv:fD v a k) (hk:k≤30000000000000) :
  Calls Tryz.prog 49 #[v] w (aQ fun r w'=>Kp [] w w'∧r=iv a.sign):=by
 obtain⟨p,l,rfl,hl1,rfl⟩:=hv
 refine Qa [] [] aA [] Tryz.func49 rfl mixed (by kernel_rfl) Tryz.ntmps49 Tryz.results49 rfl ⟨by simp,by simp⟩ aA ?_
 simp only[toS,Qe,Qx,Qo,Qr,ay,Ql,Qy,aB]
 repeat' first|apply jS|apply jO|apply jN|apply jT|refine Q0 ?_|refine Qm ?_|refine QM (h:=fun _=>?_)|apply jB
 refine Qt (A:=[_]) rfl trivial rfl rfl rfl (fun w hk hs=>Q4n w p l oq) fun w v w' _ _ _ hR=>?_
 obtain⟨N1,zs1,hN1,bG,hz1,aP⟩:=hR
 refine⟨N1,hN1,?_⟩
 have jv:=Yz hz1 aP hl1
 have he:=hz1.eq_nil dq
 rw[aP]at he
 by_cases h0:zs1.length=0
 ·have h1:=he.1 (List.eq_nil_of_length_eq_zero h0)
  rw[h1,YS]
  repeat' first|apply jS|apply jO|apply jN|apply jT|refine Q0 ?_|refine QW (h:=?_)|(refine Zm (h1:=?_) (h2:=?_)<;>intro hc<;>try omega)|apply jV|apply jR|refine Q5 rfl ?_|apply Qz
  exact Qj rfl (fun a w' st=>⟨st.kp,rfl⟩)
 ·have h1:bV (bf l)≠0:=fun h=>h0 (by rw[he.2 h];rfl)
  cases p with
  | false =>
   have h2:(bC false (bV (bf l))).sign=1:=Int.sign_eq_one_of_pos (by simp[bC];omega)
   rw[h2]
   repeat' first|apply jS|apply jO|apply jN|apply jT|refine Q2 ?_|refine Q0 ?_|refine Q7 ?_|refine QW (h:=?_)|(refine Zm (h1:=?_) (h2:=?_)<;>intro hc<;>try omega)|apply jK|apply jR|refine Q4 rfl ?_|apply jW
   exact Qj rfl (fun a w' st=>⟨st.kp,rfl⟩)
  | true =>
   have h2:(bC true (bV (bf l))).sign = -1:=Int.sign_eq_neg_one_of_neg (by simp[bC];omega)
   rw[h2]
   repeat' first|apply jS|apply jO|apply jN|apply jT|refine Q2 ?_|refine Q0 ?_|refine Q7 ?_|refine QW (h:=?_)|(refine Zm (h1:=?_) (h2:=?_)<;>intro hc<;>try omega)|apply jV|apply jR|refine Q5 rfl ?_|refine Q4 rfl ?_|apply Qz
   exact Qj rfl (fun a w' st=>⟨st.kp,rfl⟩)

theorem Qiv (w:World) (v u:Value) (a b:Int) (k:Nat) (hv:fD v a k) (hu:fD u b k) (hk:k≤30000000000000) :
  Calls Tryz.prog 59 #[v,u] w (aQ fun r w'=>Kp [] w w'∧r=Wv (a+b)):=by
 obtain⟨p,l,rfl,hl1,rfl⟩:=hv
 obtain⟨q,l',rfl,hl2,rfl⟩:=hu
 refine Qa [⟨1,1,[0,2,1,3,4,5],[]⟩,⟨3,2,[0,1,3,4,2,5,6],[]⟩,⟨5,2,[0,1,3,4,2,5,6],[]⟩,⟨6,2,[0,1,3,4,2,5,6],[]⟩] [] aA [] Tryz.func59 rfl mixed (by kernel_rfl) Tryz.ntmps59 Tryz.results59 rfl ⟨by simp,by simp⟩ aA ?_
 simp only[toS,Qe,Qx,Qo,Qr,ay,Ql,Qy,aB]
 repeat' first|apply jS|apply jO|apply jD|apply jN|refine Qm ?_|refine Qh fun _=>?_|refine QM (h:=fun _=>?_)|apply jT
 refine Qt (A:=[_,_,_]) rfl trivial rfl rfl rfl (fun w hk hs=>Q4n w p l oq) fun w v w' _ _ _ hR=>?_
 obtain⟨N1,zs1,hN1,bG,hz1,aP⟩:=hR
 refine⟨N1,hN1,?_⟩
 have jv:=Yz hz1 aP hl1
 skip
 refine Qt (A:=[_,_,_]) rfl trivial rfl rfl rfl (fun w hk hs=>Q4n w q l' oq) fun w v w' _ _ _ hR=>?_
 obtain⟨N2,zs2,eH,hO2,hz2,aY⟩:=hR
 refine⟨N2,eH,?_⟩
 have hzl2:=Yz hz2 aY hl2
 by_cases hpq:p=q
 ·subst hpq
  repeat' first|apply jS|apply jO|apply jD|apply jN|apply jT|refine Q1 ?_|refine Q2 ?_|refine Q0 ?_|refine Q7 ?_|refine Qeb (h:=?_)|refine Q5 rfl ?_|apply jB
  refine Qt (A:=[_,_,_]) rfl trivial rfl rfl rfl (fun w hk hs=>Qin w _ _ _ _ _ _ (bG.rd.at hk hs Qb) (hO2.rd.at hk hs Qb) hz1.lt hz2.lt oq oq) fun w v w' _ _ _ hR=>?_
  obtain⟨N3,dD,hN3,hO3,hz3,hval3⟩:=hR
  refine⟨N3,hN3,?_⟩
  rw[aP,aY]at hval3
  have hzl3:dD.length≤k / 4+1+1:=by
   refine hz3.bM dq ?_
   rw[hval3,V9]
   have h1:=V6 (QZ hl1) (Q8x k)
   have h2:=V6 (QZ hl2) (Q8x k)
   show _<W32 ^ (k / 4+1)*4294967296
   omega
  skip
  refine Q9 trivial rfl rfl rfl (fun w hk hs=>Yh w _ _ dD p (hO3.rd.at hk hs Qb) hz3.lt oq) fun w v w' _ _ _ hR=>?_
  subst hR
  repeat' first|apply jN|apply jT|refine Q6 ?_|refine Q6 ?_|apply jV|apply jR|apply Qz
  exact Z0 0 rfl rfl rfl (fun a w' st=>⟨st.kp,by show Wv (bC p (val W32 dD))=_;rw[hval3,Qdu]⟩)
 have hpq':(p == q)=false:=by simpa using hpq
 repeat' first|apply jS|apply jO|apply jN|apply jT|refine Q2 ?_|refine Q0 ?_|refine Q7 ?_|refine Ql1 (h:=?_)|apply jB
 rw[hpq']
 repeat' first|apply jS|apply jO|refine Q1 ?_|refine Q4 rfl ?_
 refine Q9 trivial rfl rfl rfl (fun w hk hs=>Qmd w _ _ _ _ _ _ (bG.rd.at hk hs Qb) (hO2.rd.at hk hs Qb) hz1 hz2 oq oq) fun w v w' _ _ _ hR=>?_
 subst hR
 by_cases hlt:val W32 zs1<val W32 zs2
 ·have hneg:=YB.2 hlt
  have hlen:zs1.length≤zs2.length:=by
   refine Ve fun h=>?_
   have:=YL (b:=W32) dq hz2 hz1 oq
   omega
  repeat' first|apply jS|apply jD|apply jN|apply jT|refine Q1 ?_|refine Q2 ?_|refine Q0 ?_|refine Q7 ?_|(refine Qg (h1:=?_) (h2:=?_)<;>intro hc<;>try omega)|refine Q5 rfl ?_
  refine Qt (A:=[_,_,_]) rfl trivial rfl rfl rfl (fun w hk hs=>Qft w _ _ _ _ _ _ (hO2.rd.at hk hs Qb) (bG.rd.at hk hs Qb) hz2.lt hz1.lt oq hlen (Nat.le_of_lt hlt)) fun w v w' _ _ _ hR=>?_
  obtain⟨N3,dD,hN3,hO3,hz3,hval3⟩:=hR
  refine⟨N3,hN3,?_⟩
  have hzl3:dD.length≤k / 4+1:=hz3.bM dq (V5 (show val W32 dD≤val W32 zs2 by omega) (by rw[aY];exact V6 (QZ hl2) (Q8x k)))
  rw[aP,aY]at hval3
  rw[aP,aY]at hlt
  skip
  refine Q9 trivial rfl rfl rfl (fun w hk hs=>Yh w _ _ dD q (hO3.rd.at hk hs Qb) hz3.lt oq) fun w v w' _ _ _ hR=>?_
  subst hR
  repeat' first|apply jN|apply jT|refine Q6 ?_|refine Q6 ?_|apply jV|apply jR|apply Qz
  exact Z0 0 rfl rfl rfl (fun a w' st=>⟨st.kp,by show Wv (bC q (val W32 dD))=_;rw[← Q9x hpq hlt, ← hval3,Nat.add_sub_cancel]⟩)
 ·have hneg:¬fG (val W32 zs1) (val W32 zs2)<0:=fun h=>hlt (YB.1 h)
  have hlen:zs2.length≤zs1.length:=by
   refine Ve fun h=>hlt ?_
   exact YL (b:=W32) dq hz1 hz2 oq
  repeat' first|apply jS|apply jD|apply jN|apply jT|refine Q1 ?_|refine Q2 ?_|refine Q0 ?_|refine Q7 ?_|(refine Qg (h1:=?_) (h2:=?_)<;>intro hc<;>try omega)|apply jK|refine Q4 rfl ?_|apply jW
  refine Qt (A:=[_,_,_]) rfl trivial rfl rfl rfl (fun w hk hs=>Qft w _ _ _ _ _ _ (bG.rd.at hk hs Qb) (hO2.rd.at hk hs Qb) hz1.lt hz2.lt oq hlen oq) fun w v w' _ _ _ hR=>?_
  obtain⟨N3,dD,hN3,hO3,hz3,hval3⟩:=hR
  refine⟨N3,hN3,?_⟩
  have hzl3:dD.length≤k / 4+1:=hz3.bM dq (V5 (show val W32 dD≤val W32 zs1 by omega) (by rw[aP];exact V6 (QZ hl1) (Q8x k)))
  rw[aP,aY]at hval3
  rw[aP,aY]at hlt
  skip
  refine Q9 trivial rfl rfl rfl (fun w hk hs=>Yh w _ _ dD p (hO3.rd.at hk hs Qb) hz3.lt oq) fun w v w' _ _ _ hR=>?_
  subst hR
  repeat' first|apply jN|apply jT|refine Q6 ?_|refine Q6 ?_|apply jR
  exact Z0 0 rfl rfl rfl (fun a w' st=>⟨st.kp,by show Wv (bC p (val W32 dD))=_;rw[← Q9w hpq hlt, ← hval3,Nat.add_sub_cancel]⟩)

theorem Qby {n k:Nat} (h:n<256 ^ k) {m:Nat} (hm:m<256 ^ k):n+m<256 ^ (k+1):=by
 rw[V9]
 omega
theorem fD.add {a b:Int} {k:Nat} (h:a.natAbs<256 ^ k) (h':b.natAbs<256 ^ k):fD (Wv (a+b)) (a+b) (k+1):=QC (V5 (Int.natAbs_add_le a b) (Qby h h'))
theorem Qpq (w:World) (v u:Value) (a b:Int) (k:Nat) (hv:fD v a k) (hu:fD u b k) (hk:k≤30000000000000) :
  Calls Tryz.prog 160 #[v,u] w (aQ fun r w'=>Kp [] w w'∧r=Wv (a-b)):=by
 have hZ:fD (Wv (-b)) (-b) k:=QC (by rw[Int.natAbs_neg];exact hu.lt)
 obtain⟨p,l,rfl,hl1,rfl⟩:=hv
 obtain⟨q,l',rfl,hl2,rfl⟩:=hu
 refine Qa [⟨1,1,[],[]⟩] [] aA [] Tryz.func160 rfl mixed (by kernel_rfl) Tryz.ntmps160 Tryz.results160 rfl ⟨by simp,by simp⟩ aA ?_
 simp only[toS,Qe,Qx,Qo,Qr,ay,Ql,Qy,aB]
 repeat' first|apply jS|apply jO|apply jD|apply jN|refine Qm ?_|refine Qh fun _=>?_|refine QM (h:=fun _=>?_)|apply jT
 refine Q9 trivial rfl rfl rfl (fun w hk' hs=>Q9d w _ _ k ⟨q,l',rfl,hl2,rfl⟩ hk) fun w v w' _ _ _ hR=>?_
 subst hR
 skip
 refine Q9 trivial rfl rfl rfl (fun w hk' hs=>Qiv w _ _ _ _ k ⟨p,l,rfl,hl1,rfl⟩ hZ hk) fun w v w' _ _ _ hR=>?_
 subst hR
 repeat' first|apply jN|apply jT|refine Q6 ?_|refine Q6 ?_|apply jR
 exact Z0 0 rfl rfl rfl (fun a w' st=>⟨st.kp,by rw[Int.sub_eq_add_neg];rfl⟩)

theorem Qpr (w:World) (v u:Value) (a b:Int) (k:Nat) (hv:fD v a k) (hu:fD u b k) (hk:k≤29999999999999) :
  Calls Tryz.prog 115 #[v,u] w (aQ fun r w'=>Kp [] w w'∧r=iv (a-b).sign):=by
 have hZ:fD (Wv (a-b)) (a-b) (k+1):=by
  rw[Int.sub_eq_add_neg]
  exact fD.add hv.lt (by rw[Int.natAbs_neg];exact hu.lt)
 obtain⟨p,l,rfl,hl1,rfl⟩:=hv
 obtain⟨q,l',rfl,hl2,rfl⟩:=hu
 refine Qa [] [] aA [] Tryz.func115 rfl mixed (by kernel_rfl) Tryz.ntmps115 Tryz.results115 rfl ⟨by simp,by simp⟩ aA ?_
 simp only[toS,Qe,Qx,Qo,Qr,ay,Ql,Qy,aB]
 repeat' first|apply jS|apply jO|apply jN|refine Q0 ?_|refine Qm ?_|refine QM (h:=fun _=>?_)|apply jT
 refine Q9 trivial rfl rfl rfl (fun w hk' hs=>Qpq w _ _ _ _ k ⟨p,l,rfl,hl1,rfl⟩ ⟨q,l',rfl,hl2,rfl⟩ oq) fun w v w' _ _ _ hR=>?_
 subst hR
 skip
 refine Q9 trivial rfl rfl rfl (fun w hk' hs=>Qg7 w _ _ (k+1) hZ oq) fun w v w' _ _ _ hR=>?_
 subst hR
 repeat' first|apply jN|apply jT|refine Q0 ?_|apply jR
 exact Qj rfl (fun a w' st=>⟨st.kp,rfl⟩)

theorem Qmk (w:World) (v u:Value) (a b:Int) (k:Nat) (hv:fD v a k) (hu:fD u b k) (hk:k≤30000000000000) :
  Calls Tryz.prog 60 #[v,u] w (aQ fun r w'=>Kp [] w w'∧r=Wv (a*b)):=by
 obtain⟨p,l,rfl,hl1,rfl⟩:=hv
 obtain⟨q,l',rfl,hl2,rfl⟩:=hu
 refine Qa [⟨1,1,[0,2,5,6,7,8,9,1,3,4,10,11],[]⟩] [] aA [] Tryz.func60 rfl mixed (by kernel_rfl) Tryz.ntmps60 Tryz.results60 rfl ⟨by simp,by simp⟩ aA ?_
 simp only[toS,Qe,Qx,Qo,Qr,ay,Ql,Qy,aB]
 repeat' first|apply jS|apply jO|apply jD|apply jN|refine Q2 ?_|refine Q7 ?_|refine Qm ?_|refine Q0b (h:=?_)|refine Qh fun _=>?_|refine QM (h:=fun _=>?_)|apply jT
 refine Qt (A:=[_,_,_]) rfl trivial rfl rfl rfl (fun w hk hs=>Q4n w p l oq) fun w v w' _ _ _ hR=>?_
 obtain⟨N1,zs1,hN1,bG,hz1,aP⟩:=hR
 refine⟨N1,hN1,?_⟩
 have jv:=Yz hz1 aP hl1
 skip
 refine Qt (A:=[_,_,_]) rfl trivial rfl rfl rfl (fun w hk hs=>Q4n w q l' oq) fun w v w' _ _ _ hR=>?_
 obtain⟨N2,zs2,eH,hO2,hz2,aY⟩:=hR
 refine⟨N2,eH,?_⟩
 have hzl2:=Yz hz2 aY hl2
 skip
 refine Qt (A:=[_,_,_]) rfl trivial rfl rfl rfl (fun w hk hs=>Qbf w _ _ _ _ _ _ (bG.rd.at hk hs Qb) (hO2.rd.at hk hs Qb) hz1.lt hz2.lt oq oq) fun w v w' _ _ _ hR=>?_
 obtain⟨N3,dD,hN3,hO3,hz3,hval3⟩:=hR
 refine⟨N3,hN3,?_⟩
 rw[aP,aY]at hval3
 have hzl3:dD.length≤(k / 4+1)+(k / 4+1):=by
  refine hz3.bM dq ?_
  rw[hval3,Nat.pow_add]
  have h1:=V6 (QZ hl1) (Q8x k)
  have h2:=V6 (QZ hl2) (Q8x k)
  exact Nat.mul_lt_mul_of_lt_of_le h1 (Nat.le_of_lt h2) (Nat.pow_pos dq)
 skip
 refine Q9 trivial rfl rfl rfl (fun w hk hs=>Yh w _ _ dD (p != q) (hO3.rd.at hk hs Qb) hz3.lt oq) fun w v w' _ _ _ hR=>?_
 subst hR
 repeat' first|apply jN|apply jT|refine Q6 ?_|refine Q6 ?_|apply jR
 exact Z0 0 rfl rfl rfl (fun a w' st=>⟨st.kp,by show Wv (bC (p != q) (val W32 dD))=_;rw[hval3,Qdt]⟩)


section
variable {c:Cx} {Q:Exit→Act→World→Prop} {m:Mode} {F:ak} {H:aj} {r:List bT} {g:Option (Option Tmp × Bool)} {ns:Bool} {d:Tmp} {ty t t':TypeId} {x y:Operand} {i:Nat}
theorem Qa5 (hd:Qw c.n (some d)=true) (hg:Qi F g=some true) (hx:ev F x=some (uv i)) (hb:i≤18446744073709551616)
  (h:JO c Q m r ((d,uv ((18446744073709551616-i) % 18446744073709551616))::F) H):JO c Q m (⟨some d,.unOp .neg t x,ty,g,.bg,ns⟩::r) F H :=
 ZE hd hg (fun a w fr=>by
  have h1:IntKind.u64.wrap (-(i:Int))=(((18446744073709551616-i) % 18446744073709551616:Nat):Int):=by rw[IntKind.wrap_u64];omega
  simp only[execOp,fr.ev hx]
  simp[Op.unary,Op.intArith,h1,uv]) h
theorem Qa8 {n:Int} (j:Nat) [TI c.P t .i64] [TI c.P t' .u64] (hd:Qw c.n (some d)=true) (hg:Qi F g=some true) (hx:ev F x=some (.int .i64 n)) (hj:IntKind.u64.wrap n=(j:Int))
  (h:JO c Q m r ((d,uv j)::F) H):JO c Q m (⟨some d,.convert t t' x,ty,g,.bg,ns⟩::r) F H:=Wj (k':=.u64) (j:Int) hd hg hx hj h
end

theorem Qd3 (m:Nat):val W32 [m % 4294967296,m / 4294967296]=m:=by
 show m % 4294967296+4294967296*(m / 4294967296+4294967296*0)=m
 omega

theorem Qga (w:World) (n:Int) (h1 : -9223372036854775808≤n) (h2:n<9223372036854775808) :
  Calls Tryz.prog 94 #[iv n] w (aQ fun r w'=>Kp [] w w'∧r=Wv n):=by
 have hm:n.natAbs≤9223372036854775808:=by omega
 have hm2:n.natAbs<18446744073709551616:=by omega
 have hlt:∀ x∈[n.natAbs % 4294967296,n.natAbs / 4294967296],x<W32:=fun x hx=>by
  simp only[List.mem_cons,List.mem_nil_iff,or_false]at hx
  show x<4294967296
  omega
 by_cases hn:n<0
 ·refine Qa [] [] aA [] Tryz.func94 rfl mixed (by kernel_rfl) Tryz.ntmps94 Tryz.results94 rfl ⟨by simp,by simp⟩ aA ?_
  simp only[toS,Qe,Qx,Qo,Qr,ay,Ql,Qy,aB]
  repeat' first|apply jS|apply jO|apply jN|refine Q1 ?_|refine Qh fun _=>?_|apply jT
  refine Qa8 (18446744073709551616-n.natAbs) rfl rfl rfl (by rw[IntKind.wrap_u64];omega) ?_
  repeat' first|apply jS|apply jO|apply jN|apply jT|refine Q1 ?_|refine Q0 ?_|(refine Qg (h1:=?_) (h2:=?_)<;>intro hc<;>try omega)|refine Q5 rfl ?_
  refine Qa5 rfl rfl rfl oq ?_
  rw[show (18446744073709551616-(18446744073709551616-n.natAbs)) % 18446744073709551616=n.natAbs by omega]
  repeat' first|apply jS|apply jO|apply jN|refine Q1 ?_|refine Q0 ?_|refine Q5x (h:=?_)|refine X4 (h:=?_)|(refine Qg (h1:=?_) (h2:=?_)<;>intro hc<;>try omega)|refine QH (h:=fun _=>?_)|apply jT
  rename_i b3
  have hO:aZ [(b3,.cells ⟨[uv (n.natAbs % 4294967296),uv (n.natAbs / 4294967296)]⟩ 126)] (.slice (some ⟨b3,0,none⟩) 2 2) 2 [n.natAbs % 4294967296,n.natAbs / 4294967296]:=YA b3 2 _ _ rfl rfl oq
  refine Q9 trivial rfl rfl rfl (fun w hk hs=>Yh w _ _ _ true (hO.rd.at hk hs Qb) hlt oq) fun w v w' _ _ _ hR=>?_
  subst hR
  repeat' first|apply jN|apply jT|refine Q6 ?_|refine Q6 ?_|apply jR
  exact Z0 1 rfl rfl rfl (fun a w' st=>⟨st.kp,by show Wv (bC true (val W32 _))=_;rw[Qd3];congr 1;simp only[bC,if_true,Bool.false_eq_true,if_false];omega⟩)
 ·refine Qa [] [] aA [] Tryz.func94 rfl mixed (by kernel_rfl) Tryz.ntmps94 Tryz.results94 rfl ⟨by simp,by simp⟩ aA ?_
  simp only[toS,Qe,Qx,Qo,Qr,ay,Ql,Qy,aB]
  repeat' first|apply jS|apply jO|apply jN|refine Q1 ?_|refine Qh fun _=>?_|apply jT
  refine Qa8 n.natAbs rfl rfl rfl (by rw[IntKind.wrap_u64];omega) ?_
  repeat' first|apply jS|apply jO|apply jN|apply jT|refine Q1 ?_|refine Q0 ?_|refine Q5x (h:=?_)|refine X4 (h:=?_)|(refine Qg (h1:=?_) (h2:=?_)<;>intro hc<;>try omega)|refine QH (h:=fun _=>?_)|apply jK|refine Q4 rfl ?_
  rename_i b3
  have hO:aZ [(b3,.cells ⟨[uv (n.natAbs % 4294967296),uv (n.natAbs / 4294967296)]⟩ 126)] (.slice (some ⟨b3,0,none⟩) 2 2) 2 [n.natAbs % 4294967296,n.natAbs / 4294967296]:=YA b3 2 _ _ rfl rfl oq
  refine Q9 trivial rfl rfl rfl (fun w hk hs=>Yh w _ _ _ false (hO.rd.at hk hs Qb) hlt oq) fun w v w' _ _ _ hR=>?_
  subst hR
  repeat' first|apply jN|apply jT|refine Q6 ?_|refine Q6 ?_|apply jR
  exact Z0 1 rfl rfl rfl (fun a w' st=>⟨st.kp,by show Wv (bC false (val W32 _))=_;rw[Qd3];congr 1;simp only[bC,if_true,Bool.false_eq_true,if_false];omega⟩)

theorem ZZ {c:Cx} {t t' t'':Tmp} {v':Value} {ty ty' n n' b b':Nat} {cs cs':Array Value} {T T':TypeId} {fz fz':Nat × Nat} {R:Value→World→Prop} {F:ak} {H:aj} [TN c.P ty n] [TN c.P ty' n'] (k k':Nat) (h1:look F t=some (.pointer (some ⟨b,0,none⟩)))
  (h2:H[k]?=some (b,Obj.cells cs T fz)) (hn:cs.size=n) (h1':look F t'=some (.pointer (some ⟨b',0,none⟩))) (h2':H[k']?=some (b',Obj.cells cs' T' fz')) (hn':cs'.size=n') (h':look F t''=some v') (hR:∀ a w,St c F H a w→R (.tuple #[.agg cs,.agg cs',v']) w):JX c (X9 c.P #[.cell t ty,.cell t' ty',.tmp t''] (aQ R)) .ret F H :=
 Yy [.agg cs,.agg cs',v'] (Q1g k h1 h2 hn (Q1g k' h1' h2' hn' ⟨h',trivial⟩)) hR

theorem Qoo (w:World) (v u:Value) (a b:Int) (k:Nat) (hv:fD v a k) (hu:fD u b k) (hk:k≤30000000000000) :
  Calls Tryz.prog 120 #[v,u] w (aQ fun r w'=>Kp [] w w'∧r=if b=0 then .tuple #[Wv 0,Wv 0,.bool false] else .tuple #[Wv (a / b),Wv (a % b),.bool true]):=by
 obtain⟨p,l,rfl,hl1,rfl⟩:=hv
 obtain⟨q,l',rfl,hl2,rfl⟩:=hu
 refine Qa [⟨1,1,[0,2,1,3,4,5],[]⟩,⟨3,2,[],[]⟩] [] aA [] Tryz.func120 rfl mixed (by kernel_rfl) Tryz.ntmps120 Tryz.results120 rfl ⟨by simp,by simp⟩ aA ?_
 simp only[toS,Qe,Qx,Qo,Qr,ay,Ql,Qy,aB]
 repeat' first|apply jS|apply jO|apply jD|apply jN|refine Q0 ?_|refine Qm ?_|refine Qh fun _=>?_|refine QM (h:=fun _=>?_)|apply jT
 refine Qt (A:=[_,_,_,_]) rfl au rfl rfl rfl (fun w hk hs=>Q4n w p l oq) fun w v w' _ _ _ hR=>?_
 obtain⟨N1,zs1,hN1,bG,hz1,aP⟩:=hR
 refine⟨N1,hN1,?_⟩
 have jv:=Yz hz1 aP hl1
 skip
 refine Qt (A:=[_,_,_,_]) rfl au rfl rfl rfl (fun w hk hs=>Q4n w q l' oq) fun w v w' _ _ _ hR=>?_
 obtain⟨N2,zs2,eH,hO2,hz2,aY⟩:=hR
 refine⟨N2,eH,?_⟩
 have hzl2:=Yz hz2 aY hl2
 have he:=hz2.eq_nil dq
 rw[aY]at he
 by_cases h0:zs2.length=0
 ·have h1:=he.1 (List.eq_nil_of_length_eq_zero h0)
  rw[h1,if_pos (YS q)]
  repeat' first|apply jS|apply jO|apply jD|apply jN|apply jT|refine Q1 ?_|refine Q0 ?_|refine Qm ?_|refine Q6 ?_|refine Q3k (k:=_) (h:=?_)|refine QW (h:=?_)|(refine Zm (h1:=?_) (h2:=?_)<;>intro hc<;>try omega)|refine Q6 ?_|apply jV|apply jR|refine Q5 rfl ?_
  exact ZZ 1 0 rfl rfl rfl rfl rfl rfl rfl (fun a w' st=>⟨st.kp,rfl⟩)
 have hy0:bV (bf l')≠0:=fun h=>h0 (by rw[he.2 h];rfl)
 rw[if_neg (fun h=>hy0 ((Q05 _ _).1 h))]
 have hv1:val W32 zs1<256 ^ k:=by rw[aP];exact QZ hl1
 have hv2:val W32 zs2<256 ^ k:=by rw[aY];exact QZ hl2
 have hpw:256 ^ k≤W32 ^ (k / 4+1):=Q8x k
 have hpk:0<256 ^ k:=Nat.pow_pos dq
 repeat' first|apply jS|apply jO|apply jN|apply jT|refine Q1 ?_|refine Q0 ?_|refine QW (h:=?_)|(refine Zm (h1:=?_) (h2:=?_)<;>intro hc<;>try omega)|apply jK|refine Q4 rfl ?_
 refine Qt (A:=[_,_,_,_]) rfl trivial rfl rfl rfl (fun w hk hs=>Qpp w _ _ _ _ _ _ (bG.rd.at hk hs Qb) (hO2.rd.at hk hs Qb) hz1 hz2 oq oq oq) fun w v w' _ _ _ hR=>?_
 obtain⟨N3,N4,v3,v4,dD,fE,rfl,hN34,hO3,hO4,hz3,je,hval3,hlt4⟩:=hR.ex
 refine⟨_,hN34,?_⟩
 rw[Vb N3 N4]
 have hzl4:fE.length≤k / 4+1:=je.bM dq oq
 have hzl3:dD.length≤k / 4+1:=hz3.bM dq (by
  have h1:val W32 dD≤val W32 dD*val W32 zs2:=Nat.le_mul_of_pos_right _ oq
  omega)
 have hlaw:=Qef p q (val W32 zs1) (val W32 zs2) (val W32 dD) (val W32 fE) oq hval3 hlt4
 rw[aP,aY]at hlaw
 have he4:=je.eq_nil dq
 have hlaw1:=hlaw.1
 have hlaw2:=hlaw.2
 clear hlaw
 rcases hO4 with hO4|⟨rfl,rfl,rfl⟩
 ·by_cases hp:p=true∧0<fE.length
  ·obtain⟨rfl,hp4⟩:=hp
   have hr0:0<val W32 fE:=Nat.pos_of_ne_zero fun h=>by rw[he4.2 h]at hp4;exact absurd hp4 aA
   obtain⟨hq1,hq2⟩:=hlaw1 ⟨rfl,hr0⟩
   have hlen:fE.length≤zs2.length:=by
    refine Ve fun h=>?_
    have:=YL (b:=W32) dq hz2 je oq
    omega
   repeat' first|apply jS|apply jO|apply jN|apply jT|refine Q1 ?_|refine Q2 ?_|refine Q0 ?_|refine Q7 ?_|refine Qp ?_|refine Qu (h:=?_)|refine QW (h:=?_)|(refine QU (h1:=?_) (h2:=?_)<;>intro hc<;>try omega)|refine QH (h:=fun _=>?_)|refine Q5 rfl ?_
   rename_i b9
   have hO9:aZ [(b9,.cells ⟨[.int .u64 1]⟩ 126)] (.slice (some ⟨b9,0,none⟩) 1 1) 1 [1]:=YA b9 1 [1] _ rfl rfl oq
   refine Qt (A:=[_,_,_,_,_]) rfl trivial rfl rfl rfl (fun w hk hs=>Qin w _ _ _ _ _ _ (hO3.rd.at hk hs Qb) (hO9.rd.at hk hs Qb) hz3.lt (fun x hx=>by rw[List.mem_singleton]at hx;rw[hx];decide) oq oq) fun w v w' _ _ _ hR=>?_
   obtain⟨N5,zs5,hN5,iy,hz5,dX⟩:=hR
   refine⟨N5,hN5,?_⟩
   rw[Q5k]at dX
   have hzl5:zs5.length≤k / 4+1+1:=hz5.bM dq (by
    rw[dX,V9]
    have h1:val W32 dD≤val W32 dD*val W32 zs2:=Nat.le_mul_of_pos_right _ oq
    show _<W32 ^ (k / 4+1)*4294967296
    omega)
   repeat' first|refine Q1 ?_|fail
   refine Qt (A:=[_,_,_,_,_]) rfl trivial rfl rfl rfl (fun w hk hs=>Qft w _ _ _ _ _ _ (hO2.rd.at hk hs Qb) (hO4.rd.at hk hs Qb) hz2.lt je.lt oq hlen oq) fun w v w' _ _ _ hR=>?_
   obtain⟨N6,zs6,hN6,hO6,hz6,hval6⟩:=hR
   refine⟨N6,hN6,?_⟩
   have hzl6:zs6.length≤k / 4+1:=hz6.bM dq oq
   repeat' first|apply jS|apply jO|apply jN|refine Q1 ?_|refine Q2 ?_|refine Q0 ?_|refine Q7 ?_|refine Q0b (h:=?_)|apply jT
   refine Q9 trivial rfl rfl rfl (fun w hk hs=>Yh w _ _ zs5 (true != q) (iy.rd.at hk hs Qb) hz5.lt oq) fun w v w' _ _ _ hR=>?_
   subst hR
   repeat' first|refine Q1 ?_|fail
   refine Q9 trivial rfl rfl rfl (fun w hk hs=>Yh w _ _ zs6 false (hO6.rd.at hk hs Qb) hz6.lt oq) fun w v w' _ _ _ hR=>?_
   subst hR
   repeat' first|apply jN|apply jT|refine Q0 ?_|refine Q6 ?_|refine Q6 ?_|apply jR
   refine ZZ 2 1 rfl rfl rfl rfl rfl rfl rfl (fun a w' st=>⟨st.kp,?_⟩)
   show Value.tuple #[Wv (bC (true != q) (val W32 zs5)),Wv (bC false (val W32 zs6)),_]=_
   rw[dX,hq1, ← hq2, ← aY]
   have:val W32 zs6=val W32 zs2-val W32 fE:=by omega
   rw[this]
   rfl
  have hq:=hlaw2 (fun⟨h1,h2⟩=>hp ⟨h1,by
   refine Nat.pos_of_ne_zero fun h=>?_
   have:=List.eq_nil_of_length_eq_zero h
   rw[this]at h2
   exact absurd h2 (by simp[val])⟩)
  obtain⟨hq1,hq2⟩:=hq
  have hnp:p=true→fE.length=0:=fun h=>by
   refine Ve fun h'=>hp ⟨h,by omega⟩
  cases p with
  | false =>
   repeat' first|apply jS|apply jO|apply jN|apply jT|refine Q1 ?_|refine Q2 ?_|refine Q0 ?_|refine Q7 ?_|refine Qq ?_|refine Qu (h:=?_)|refine Q0b (h:=?_)|refine Q4 rfl ?_|refine QA ?_|apply jK
   refine Q9 trivial rfl rfl rfl (fun w hk hs=>Yh w _ _ dD (false != q) (hO3.rd.at hk hs Qb) hz3.lt oq) fun w v w' _ _ _ hR=>?_
   subst hR
   repeat' first|refine Q1 ?_|fail
   refine Q9 trivial rfl rfl rfl (fun w hk hs=>Yh w _ _ fE false (hO4.rd.at hk hs Qb) je.lt oq) fun w v w' _ _ _ hR=>?_
   subst hR
   repeat' first|apply jN|apply jT|refine Q0 ?_|refine Q6 ?_|refine Q6 ?_|apply jR
   refine ZZ 1 0 rfl rfl rfl rfl rfl rfl rfl (fun a w' st=>⟨st.kp,?_⟩)
   show Value.tuple #[Wv (bC (false != q) (val W32 dD)),Wv (bC false (val W32 fE)),_]=_
   rw[hq1, ← hq2]
   rfl
  | true =>
   have hz0:=hnp rfl
   repeat' first|apply jS|apply jO|apply jN|apply jT|refine Q1 ?_|refine Q2 ?_|refine Q0 ?_|refine Q7 ?_|refine Qp ?_|refine Qu (h:=?_)|refine QW (h:=?_)|(refine QU (h1:=?_) (h2:=?_)<;>intro hc<;>try omega)|refine Q0b (h:=?_)|apply jK|refine Q4 rfl ?_
   refine Q9 trivial rfl rfl rfl (fun w hk hs=>Yh w _ _ dD (true != q) (hO3.rd.at hk hs Qb) hz3.lt oq) fun w v w' _ _ _ hR=>?_
   subst hR
   repeat' first|refine Q1 ?_|fail
   refine Q9 trivial rfl rfl rfl (fun w hk hs=>Yh w _ _ fE false (hO4.rd.at hk hs Qb) je.lt oq) fun w v w' _ _ _ hR=>?_
   subst hR
   repeat' first|apply jN|apply jT|refine Q0 ?_|refine Q6 ?_|refine Q6 ?_|apply jR
   refine ZZ 1 0 rfl rfl rfl rfl rfl rfl rfl (fun a w' st=>⟨st.kp,?_⟩)
   show Value.tuple #[Wv (bC (true != q) (val W32 dD)),Wv (bC false (val W32 fE)),_]=_
   rw[hq1, ← hq2]
   rfl
 ·by_cases hp:p=true∧0<fE.length
  ·obtain⟨rfl,hp4⟩:=hp
   have hr0:0<val W32 fE:=Nat.pos_of_ne_zero fun h=>by rw[he4.2 h]at hp4;exact absurd hp4 aA
   obtain⟨hq1,hq2⟩:=hlaw1 ⟨rfl,hr0⟩
   have hlen:fE.length≤zs2.length:=by
    refine Ve fun h=>?_
    have:=YL (b:=W32) dq hz2 je oq
    omega
   repeat' first|apply jS|apply jO|apply jN|apply jT|refine Q1 ?_|refine Q2 ?_|refine Q0 ?_|refine Q7 ?_|refine Qp ?_|refine Qu (h:=?_)|refine QW (h:=?_)|(refine QU (h1:=?_) (h2:=?_)<;>intro hc<;>try omega)|refine QH (h:=fun _=>?_)|refine Q5 rfl ?_
   rename_i b9
   have hO9:aZ [(b9,.cells ⟨[.int .u64 1]⟩ 126)] (.slice (some ⟨b9,0,none⟩) 1 1) 1 [1]:=YA b9 1 [1] _ rfl rfl oq
   refine Qt (A:=[_,_,_,_,_]) rfl trivial rfl rfl rfl (fun w hk hs=>Qin w _ _ _ _ _ _ (hO3.rd.at hk hs Qb) (hO9.rd.at hk hs Qb) hz3.lt (fun x hx=>by rw[List.mem_singleton]at hx;rw[hx];decide) oq oq) fun w v w' _ _ _ hR=>?_
   obtain⟨N5,zs5,hN5,iy,hz5,dX⟩:=hR
   refine⟨N5,hN5,?_⟩
   rw[Q5k]at dX
   have hzl5:zs5.length≤k / 4+1+1:=hz5.bM dq (by
    rw[dX,V9]
    have h1:val W32 dD≤val W32 dD*val W32 zs2:=Nat.le_mul_of_pos_right _ oq
    show _<W32 ^ (k / 4+1)*4294967296
    omega)
   repeat' first|refine Q1 ?_|fail
   refine Qt (A:=[_,_,_,_,_]) rfl trivial rfl rfl rfl (fun w hk hs=>Qft w _ _ _ _ _ _ (hO2.rd.at hk hs Qb) (bG.rd.at hk hs Qb) hz2.lt je.lt oq hlen oq) fun w v w' _ _ _ hR=>?_
   obtain⟨N6,zs6,hN6,hO6,hz6,hval6⟩:=hR
   refine⟨N6,hN6,?_⟩
   have hzl6:zs6.length≤k / 4+1:=hz6.bM dq oq
   repeat' first|apply jS|apply jO|apply jN|refine Q1 ?_|refine Q2 ?_|refine Q0 ?_|refine Q7 ?_|refine Q0b (h:=?_)|apply jT
   refine Q9 trivial rfl rfl rfl (fun w hk hs=>Yh w _ _ zs5 (true != q) (iy.rd.at hk hs Qb) hz5.lt oq) fun w v w' _ _ _ hR=>?_
   subst hR
   repeat' first|refine Q1 ?_|fail
   refine Q9 trivial rfl rfl rfl (fun w hk hs=>Yh w _ _ zs6 false (hO6.rd.at hk hs Qb) hz6.lt oq) fun w v w' _ _ _ hR=>?_
   subst hR
   repeat' first|apply jN|apply jT|refine Q0 ?_|refine Q6 ?_|refine Q6 ?_|apply jR
   refine ZZ 2 1 rfl rfl rfl rfl rfl rfl rfl (fun a w' st=>⟨st.kp,?_⟩)
   show Value.tuple #[Wv (bC (true != q) (val W32 zs5)),Wv (bC false (val W32 zs6)),_]=_
   rw[dX,hq1, ← hq2, ← aY]
   have:val W32 zs6=val W32 zs2-val W32 fE:=by omega
   rw[this]
   rfl
  have hq:=hlaw2 (fun⟨h1,h2⟩=>hp ⟨h1,by
   refine Nat.pos_of_ne_zero fun h=>?_
   have:=List.eq_nil_of_length_eq_zero h
   rw[this]at h2
   exact absurd h2 (by simp[val])⟩)
  obtain⟨hq1,hq2⟩:=hq
  have hnp:p=true→fE.length=0:=fun h=>by
   refine Ve fun h'=>hp ⟨h,by omega⟩
  cases p with
  | false =>
   repeat' first|apply jS|apply jO|apply jN|apply jT|refine Q1 ?_|refine Q2 ?_|refine Q0 ?_|refine Q7 ?_|refine Qq ?_|refine Qu (h:=?_)|refine Q0b (h:=?_)|refine Q4 rfl ?_|refine QA ?_|apply jK
   refine Q9 trivial rfl rfl rfl (fun w hk hs=>Yh w _ _ dD (false != q) (hO3.rd.at hk hs Qb) hz3.lt oq) fun w v w' _ _ _ hR=>?_
   subst hR
   repeat' first|refine Q1 ?_|fail
   refine Q9 trivial rfl rfl rfl (fun w hk hs=>Yh w _ _ fE false (bG.rd.at hk hs Qb) je.lt oq) fun w v w' _ _ _ hR=>?_
   subst hR
   repeat' first|apply jN|apply jT|refine Q0 ?_|refine Q6 ?_|refine Q6 ?_|apply jR
   refine ZZ 1 0 rfl rfl rfl rfl rfl rfl rfl (fun a w' st=>⟨st.kp,?_⟩)
   show Value.tuple #[Wv (bC (false != q) (val W32 dD)),Wv (bC false (val W32 fE)),_]=_
   rw[hq1, ← hq2]
   rfl
  | true =>
   have hz0:=hnp rfl
   repeat' first|apply jS|apply jO|apply jN|apply jT|refine Q1 ?_|refine Q2 ?_|refine Q0 ?_|refine Q7 ?_|refine Qp ?_|refine Qu (h:=?_)|refine QW (h:=?_)|(refine QU (h1:=?_) (h2:=?_)<;>intro hc<;>try omega)|refine Q0b (h:=?_)|apply jK|refine Q4 rfl ?_
   refine Q9 trivial rfl rfl rfl (fun w hk hs=>Yh w _ _ dD (true != q) (hO3.rd.at hk hs Qb) hz3.lt oq) fun w v w' _ _ _ hR=>?_
   subst hR
   repeat' first|refine Q1 ?_|fail
   refine Q9 trivial rfl rfl rfl (fun w hk hs=>Yh w _ _ fE false (bG.rd.at hk hs Qb) je.lt oq) fun w v w' _ _ _ hR=>?_
   subst hR
   repeat' first|apply jN|apply jT|refine Q0 ?_|refine Q6 ?_|refine Q6 ?_|apply jR
   refine ZZ 1 0 rfl rfl rfl rfl rfl rfl rfl (fun a w' st=>⟨st.kp,?_⟩)
   show Value.tuple #[Wv (bC (true != q) (val W32 dD)),Wv (bC false (val W32 fE)),_]=_
   rw[hq1, ← hq2]
   rfl


abbrev wc (z:Int):Array Value:=#[.bool (decide (z<0)),sv (aS z.natAbs)]
end Go.Proofs.YtbofgpenopcfaaaGreatDoor

