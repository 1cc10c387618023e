import Derived.Test.YtljmapfihjkafaaGreatDoorMd
set_option maxHeartbeats 16000000
namespace Go.Proofs.YtljmapfihjkafaaGreatDoor
open Go Go.RowKit
set_option linter.unusedSimpArgs false
set_option linter.unusedVariables false
set_option linter.unusedSectionVars false

theorem Q9d (a n:Nat) (hn:n≤32):a*2 ^ n % 4294967296=2 ^ n*(a % 2 ^ (32-n)):=by
 have e:(4294967296:Nat)=2 ^ (32-n)*2 ^ n:=by rw[← Nat.pow_add,show 32-n+n=32 by omega]
 rw[e,Nat.mul_mod_mul_right,Vc]
theorem Qrn {c n a:Nat} (hn:n≤32) (hc:c<2 ^ n):c ||| a*2 ^ n % 4294967296=c+a*2 ^ n % 4294967296:=by
 rw[Q9d a n hn,Nat.or_comm, ← Nat.two_pow_add_eq_or_of_lt hc,Nat.add_comm]
theorem Qas {a b:Nat} (ha:a<4294967296) (hb:b<4294967296):a ||| b<4294967296:=Nat.or_lt_two_pow (n:=32) (by simpa using ha) (by simpa using hb)
theorem pow31 {n:Nat} (hn:n≤31):2 ^ n≤2147483648:=by
 have:=V4 (n:=2) dq hn
 simpa using this

theorem Qin (w:World) (v:Value) (n s:Nat) (xs:List Nat) (hv:WU w v n xs) (hx:∀ x∈xs,x<W32) (hs31:s≤31) (hn:n≤16000000000000) :
  Calls Tryz.prog 147 #[v,nv s] w (aP fun v w'=>Kp [] w w'∧∃ N zs,New N w w'∧aX N v (n+1) zs∧(∀ x∈zs,x<W32)∧zs.getD n 0<2 ^ s∧val W32 zs=2 ^ s*val W32 xs):=by
 have hlx:=hv.len
 have hp:=pow31 hs31
 have hp0:0<2 ^ s:=Nat.pow_pos dq
 refine Q9 [] [] au [] Tryz.func147 rfl mixed (by kernel_rfl) Tryz.ntmps147 Tryz.results147 rfl ⟨by simp,by simp⟩ au ?_
 simp only[toS,Qd,Qt,Qk,Ql,ay,Qg,QA,aC]
 repeat' first|apply jS|apply jO|apply jN|refine Q1 ?_|refine Q0 ?_|refine Qj ?_|refine Z4 (h:=?_)|apply jT
 refine Yv (n:=n+1) rfl rfl rfl rfl rfl oq oq (fun b5=>?_)
 have hO:=Y8 b5 (n+1) (by simp only[maxLen];omega)
 repeat' first|apply jS|apply jO|apply jN|apply jT|refine Q1 ?_|refine Q0 ?_|refine Z4 (h:=?_)|apply jB
 refine Qp (ι:=Nat × aj × List Nat) ⟨fun z=>[(14,nv z.1),(13,nv n),(12,v),(5,.slice (some ⟨b5,0,none⟩) (n+1) (n+1)),(0,v),(1,nv s)],fun z=>z.2.1++[],
  fun z=>z.1≤n∧aX z.2.1 (.slice (some ⟨b5,0,none⟩) (n+1) (n+1)) (n+1) z.2.2∧(∀ x∈z.2.2,x<W32)∧z.2.2.getD z.1 0<2 ^ s∧val W32 z.2.2=2 ^ s*val W32 (xs.take z.1)∧∀ j,z.1<j→z.2.2.getD j 0=0,fun z=>n-z.1⟩
  (0, _, _) ⟨V9 _, hO, fun x hx => by obtain ⟨a, _, rfl⟩ := List.mem_map.1 hx; decide, by
   show (tab (n+1) fun _=>0).getD 0 0<2 ^ s
   rw[Xu];exact hp0,by
   show val W32 (tab (n+1) fun _=>0)=_
   rw[Wu];simp[val],fun j _=>Xu _ j⟩ aF Qy (fun z hz=>?_)
 clear hO
 obtain⟨i,N,zs⟩:=z
 obtain⟨hi,hO,hz,hci,hval,hzero⟩:=hz
 dsimp only at hi hO hz hci hval hzero ⊢
 have hlz:=hO.len
 by_cases hin:i<n
 ·have hxi:xs.getD i 0<4294967296:=QF (b:=W32) dq hx i
  have hzi:zs.getD i 0<4294967296:=QF (b:=W32) dq hz i
  have hwb:xs.getD i 0*2 ^ s<9223372036854775808:=by
   have:=Vr (show xs.getD i 0≤4294967295 by omega) hp
   omega
  have hlow:xs.getD i 0*2 ^ s % 4294967296<4294967296:=Nat.mod_lt _ dq
  have hor:=Qrn (c:=zs.getD i 0) (n:=s) (a:=xs.getD i 0) oq hci
  have horlt:zs.getD i 0+xs.getD i 0*2 ^ s % 4294967296<4294967296:=by rw[← hor];exact Qas hzi hlow
  repeat' first|apply jS|apply jO|apply jN|apply jT|refine Q1 ?_|refine Q0 ?_|refine Zb (h:=?_)|refine YV (h:=?_)|refine Xi (h:=?_)|refine Q61 (h:=?_)|(refine Qs (h1:=?_) (h2:=?_)<;>intro hc<;>try omega)|apply jK|refine Q8 rfl ?_|apply jB
  rw[Nat.mod_eq_of_lt (show xs.getD i 0*2 ^ s<18446744073709551616 by omega)]
  refine Qk5 (zs.getD i 0+xs.getD i 0*2 ^ s % 4294967296) rfl rfl rfl rfl oq hor ?_
  repeat' first|refine Zb (h:=?_)|fail
  refine XL (A:=[]) hO rfl rfl trivial rfl rfl oq (fun N1 bT=>?_)
  repeat' first|apply jO|apply jN|refine Q1 ?_|refine Qj ?_|refine Q7d (h:=?_)|refine Zb (h:=?_)|apply jT
  refine XL (A:=[]) bT rfl rfl trivial rfl rfl oq (fun N2 hO2=>?_)
  repeat' first|apply jO|apply jN|apply jT|refine Q1 ?_|refine Qj ?_|apply jW
  refine Qa (i+1,N2,_) ⟨by dsimp only;omega,hO2,YR (YR hz horlt) (by show _<4294967296;omega),?_,?_,fun j hj=>?_⟩ aY aF Qy
  ·dsimp only
   rw[QO (by simp;omega)]
   refine(Nat.div_lt_iff_lt_mul dq).2 ?_
   rw[Vc]
   exact Nat.mul_lt_mul_of_pos_left hxi hp0
  ·dsimp only
   have e1:=XB (b:=W32) (l:=zs) (j:=i) (u:=zs.getD i 0+xs.getD i 0*2 ^ s % 4294967296) oq
   have e2:=XB (b:=W32) (l:=zs.set i (zs.getD i 0+xs.getD i 0*2 ^ s % 4294967296)) (j:=i+1) (u:=xs.getD i 0*2 ^ s / 4294967296) (by simp;omega)
   rw[getD_set_ne oq,hzero (i+1) oq,Nat.mul_zero,Vt]at e2
   rw[e2,QL,Vp, ← hval]
   have e3:W32 ^ i*(xs.getD i 0*2 ^ s % 4294967296)+W32 ^ (i+1)*(xs.getD i 0*2 ^ s / 4294967296)=W32 ^ i*(xs.getD i 0*2 ^ s):=by
    rw[Va,Vn, ← Vp,Nat.mod_add_div]
   have e4:2 ^ s*(W32 ^ i*xs.getD i 0)=W32 ^ i*(xs.getD i 0*2 ^ s):=by
    rw[Nat.mul_left_comm,Vc (2 ^ s)]
   rw[e4, ← e3]
   rw[Vp]at e1
   omega
  ·dsimp only at hj ⊢
   rw[getD_set_ne oq,getD_set_ne oq]
   exact hzero j oq
 ·repeat' first|apply jS|apply jO|apply jN|apply jT|refine Q1 ?_|refine Q0 ?_|(refine Qs (h1:=?_) (h2:=?_)<;>intro hc<;>try omega)|apply jU|apply jE|apply jR|refine Q4 rfl ?_|apply Qe
  obtain rfl:i=n:=by omega
  exact Qn rfl (fun a w' st=>⟨st.kp,N,zs,st.aS rfl Q6,hO,hz,hci,by rw[hval,Vf oq]⟩)


section
variable {c:Cx} {Q:Exit→Act→World→Prop} {m:Mode} {F:ak} {H:aj} {r:List dA} {g:Option (Option Tmp × Bool)} {ns:Bool} {d:Tmp} {ty t t':TypeId} {x y:Operand} {i:Nat}
theorem Qo4 {k:IntKind} [TI c.P t k] [TI c.P t' .u64] (hd:Qx c.n (some d)=true:=by exact rfl) (hg:Qh F g=some true:=by exact rfl) (hx:ev F x=some (.int k i):=by exact rfl) (hi:i<18446744073709551616:=by(first|assumption|omega)) (h:JO c Q m r ((d,uv i)::F) H):JO c Q m (⟨some d,.convert t t' x,ty,g,.bC,ns⟩::r) F H :=
 Q28 (k':=.u64) (i:Int) hd hg hx (Qbo hi) h
end

theorem pow8 (r:Nat):2 ^ (8*r)=256 ^ r:=by rw[Nat.pow_mul]
theorem pow32 (j:Nat):W32 ^ j=256 ^ (4*j):=by rw[Nat.pow_mul]
theorem Qst {z b r:Nat} (hz:256 ^ (r+1)∣z) (hb:b<256):z ||| b*256 ^ r=z+b*256 ^ r:=by
 obtain⟨a,rfl⟩:=hz
 have h1:b*256 ^ r<2 ^ (8*(r+1)):=by
  rw[pow8,Va,Vc]
  exact Nat.mul_lt_mul_of_pos_left hb (Nat.pow_pos dq)
 have:=Nat.two_pow_add_eq_or_of_lt h1 a
 rw[pow8]at this
 exact this.symm
theorem Qog {r:Nat} (hr:r<4):256 ^ r≤16777216:=by
 have:=V4 (n:=256) dq (show r≤3 by omega)
 simpa using this

theorem Q3a (w:World) (p:Bool) (l:List UInt8) (hl:l.length≤31000000000000) :
  Calls Tryz.prog 121 #[wv p l] w (aP fun v w'=>Kp [] w w'∧∃ N zs,New N w w'∧aX N v zs.length zs∧dG W32 zs∧val W32 zs=bW (dQ l)):=by
 have hbl:=Q8e l
 refine Q9 [⟨6,2,[],[]⟩] [] au [] Tryz.func121 rfl mixed (by kernel_rfl) Tryz.ntmps121 Tryz.results121 rfl ⟨by simp,by simp⟩ au ?_
 simp only[toS,Qd,Qt,Qk,Ql,ay,Qg,QA,aC]
 repeat' first|apply jS|apply jO|apply jN|refine Q3 ?_|refine Q0 ?_|refine Qb ?_|refine Zf (j:=4) (h:=?_)|refine Ws (j:=4) (h:=?_)|refine YS (h:=?_)|refine Q2t (h:=?_)|refine QB fun _=>?_|apply jT
 rename_i b1
 refine Yv (n:=(l.length+4-1) / 4) rfl rfl rfl rfl rfl oq oq (fun b5=>?_)
 have hO:=Y8 b5 ((l.length+4-1) / 4) (by simp only[maxLen];omega)
 generalize hnw:(l.length+4-1) / 4=nw at hO ⊢
 repeat' first|apply jS|apply jO|apply jN|apply jT|refine Q1 ?_|refine Q3 ?_|refine Q0 ?_|refine Qb ?_|refine Q2t (h:=?_)|apply jB
 refine Qp (ι:=Nat × aj × List Nat) ⟨fun z=>[(16,nv z.1),(15,nv l.length),(3,.slice (some ⟨b5,0,none⟩) nw nw),(1,.pointer (some ⟨b1,0,none⟩))],fun z=>(b1,.cells #[.bool p,sv l] 35)::(z.2.1++[]),
  fun z=>z.1≤l.length∧aX z.2.1 (.slice (some ⟨b5,0,none⟩) nw nw) nw z.2.2∧(∀ x∈z.2.2,x<W32)∧(∀ j,256 ^ min 4 (l.length-z.1-4*j)∣z.2.2.getD j 0)∧val W32 z.2.2=256 ^ (l.length-z.1)*bW ((dQ l).take z.1),fun z=>l.length-z.1⟩
  (0, _, _) ⟨V9 _, hO, fun x hx => by obtain ⟨a, _, rfl⟩ := List.mem_map.1 hx; decide, fun j => by
   show _∣(tab nw fun _=>0).getD j 0
   rw[Xu];exact Nat.dvd_zero _,by
   show val W32 (tab nw fun _=>0)=_
   rw[Wu,List.take_zero,Q01,Nat.mul_zero]⟩ aF (by exact HSub.at 1 rfl (HSub.at 0 rfl (HSub.nil _))) (fun z hz=>?_)
 clear hO
 obtain⟨i,N,zs⟩:=z
 obtain⟨hi,hO,hz,hdv,hval⟩:=hz
 dsimp only at hi hO hz hdv hval ⊢
 have hlz:=hO.len
 by_cases hin:i<l.length
 ·have hb256:(dQ l).getD i 0<256:=Qj6
  have hbb:(dQ l).getD i 0<18446744073709551616:=by omega
  obtain⟨k,hk⟩:∃ k,k=l.length-1-i:=⟨_,rfl⟩
  have hki:l.length-i=k+1:=by omega
  have hzk:zs.getD (k / 4) 0<4294967296:=QF (b:=W32) dq hz _
  have hr4:k % 4<4:=Nat.mod_lt _ dq
  have hp3:=Qog hr4
  have hsh:(dQ l).getD i 0*256 ^ (k % 4)<4294967296:=by
   have:=Vr (show (dQ l).getD i 0≤255 by omega) hp3
   omega
  have hdk:256 ^ (k % 4+1)∣zs.getD (k / 4) 0:=by
   have:=hdv (k / 4)
   rwa [hki,show min 4 (k+1-4*(k / 4))=k % 4+1 by omega]at this
  have hor:=Qst hdk hb256
  have horlt:zs.getD (k / 4) 0+(dQ l).getD i 0*256 ^ (k % 4)<4294967296:=by rw[← hor];exact Qas hzk hsh
  have hkn:k / 4<nw:=by omega
  repeat' first|apply jS|apply jO|apply jD|apply jN|apply jT|refine Q1 ?_|refine Q3 ?_|refine Q0 ?_|refine Qb ?_|refine Ws (j:=4) (h:=?_)|refine Q0e (j:=4) (h:=?_)|refine ZK (i:=8) (h:=?_)|refine YS (h:=?_)|refine Wq (h:=?_)|refine Qo4 (h:=?_)|refine Zb (h:=?_)|refine YV (h:=?_)|refine Q2t (h:=?_)|refine Qc9 (h:=?_)|refine Q61 (h:=?_)|(refine Qs (h1:=?_) (h2:=?_)<;>intro hc<;>try omega)|apply jK|refine Q8 rfl ?_|apply jB
  rw[← hk,pow8,Nat.mod_eq_of_lt (show (dQ l).getD i 0*256 ^ (k % 4)<18446744073709551616 by omega)]
  refine Qk5 (zs.getD (k / 4) 0+(dQ l).getD i 0*256 ^ (k % 4)) rfl rfl rfl rfl oq hor ?_
  repeat' first|refine Zb (h:=?_)|fail
  refine XL (A:=[_]) hO rfl rfl aA rfl rfl oq (fun N1 bT=>?_)
  repeat' first|apply jO|apply jN|apply jT|refine Q1 ?_|refine Qj ?_|apply jW
  refine Qa (i+1,N1,_) ⟨by dsimp only;omega,bT,YR hz horlt,fun j=>?_,?_⟩ aY aF Qy
  ·dsimp only
   by_cases hj:k / 4=j
   ·subst hj
    rw[QO oq,show min 4 (l.length-(i+1)-4*(k / 4))=k % 4 by omega]
    exact Nat.dvd_add (Nat.dvd_trans (Nat.pow_dvd_pow 256 (Nat.le_succ _)) hdk) (Nat.dvd_mul_left _ _)
   ·rw[getD_set_ne hj]
    exact Nat.dvd_trans (Nat.pow_dvd_pow 256 oq) (hdv j)
  ·dsimp only
   have e:=XB (b:=W32) (l:=zs) (j:=k / 4) (u:=zs.getD (k / 4) 0+(dQ l).getD i 0*256 ^ (k % 4)) oq
   rw[Vp]at e
   have e2:W32 ^ (k / 4)*((dQ l).getD i 0*256 ^ (k % 4))=256 ^ k*(dQ l).getD i 0:=by
    rw[pow32,Nat.mul_left_comm, ← Nat.pow_add,show 4*(k / 4)+k % 4=k by omega,Vc]
   rw[Qa2 _ _ oq,show l.length-(i+1)=k by omega,Vp, ← Vn]
   rw[hki,Va]at hval
   omega
 ·repeat' first|apply jS|apply jO|apply jN|apply jT|refine Q1 ?_|(refine Qs (h1:=?_) (h2:=?_)<;>intro hc<;>try omega)|apply jU|apply jE|refine Q4 rfl ?_|apply Qe
  refine Q5 trivial rfl rfl rfl (fun w hk hs=>Xn w _ _ _ _ (hO.rd.at hk hs Q6) oq) fun w v w' _ _ _ hR=>?_
  obtain⟨q,hq,rfl,hnq⟩:=hR
  repeat' first|apply jN|apply jT|refine Q0 ?_|apply jR
  have hown:=hO.hd hq
  rw[← hnq]at hown
  have iR:(nrm zs).length=q:=hown.len
  refine Qn rfl (fun a w' st=>⟨st.kp,N,nrm zs,st.aS rfl Q6,by rw[iR];exact hown,dG.of hz,?_⟩)
  obtain rfl:i=l.length:=by omega
  rw[Zx,hval,Nat.sub_self,Nat.pow_zero,Nat.one_mul,Vf oq]

theorem Qaq (k:Nat):256 ^ k≤W32 ^ (k / 4+1):=by
 rw[show W32=256 ^ 4 from rfl, ← Nat.pow_mul]
 exact V4 dq oq


theorem Qag {d W r x Z cur:Nat} (hc:cur=r*W+x):x+W*(d*Z+r)=d*(cur / d+W*Z)+cur % d:=by
 have h1:=Nat.div_add_mod cur d
 rw[Vp,Vp,Nat.mul_left_comm W d Z,Vc W r]
 omega
theorem Wn {l:List Nat} {i u:Nat}:(l.set i u).drop (i+1)=l.drop (i+1):=by
 apply List.ext_getElem?
 intro j
 rw[List.getElem?_drop,List.getElem?_drop,List.getElem?_set_ne oq]

theorem Qpo (w:World) (v:Value) (n d:Nat) (xs:List Nat) (hv:WU w v n xs) (hx:∀ x∈xs,x<W32) (hd0:0<d) (hd1:d<4294967296) (hn:n≤16000000000000) :
  Calls Tryz.prog 146 #[v,uv d] w (aP fun v w'=>Kp [] w w'∧∃ v1 N zs,v=.tuple #[v1,uv (val W32 xs % d)]∧New N w w'∧aX N v1 zs.length zs∧dG W32 zs∧val W32 zs=val W32 xs / d):=by
 have hlx:=hv.len
 refine Q9 [⟨7,11,[],[]⟩] [] au [] Tryz.func146 rfl mixed (by kernel_rfl) Tryz.ntmps146 Tryz.results146 rfl ⟨by simp,by simp⟩ au ?_
 simp only[toS,Qd,Qt,Qk,Ql,ay,Qg,QA,aC]
 repeat' first|apply jS|apply jO|apply jN|refine Q1 ?_|refine Q0 ?_|refine Z4 (h:=?_)|apply jT
 refine Yv (n:=n) rfl rfl rfl rfl rfl oq oq (fun b5=>?_)
 have hO:=Y8 b5 n (by simp only[maxLen];omega)
 repeat' first|apply jS|apply jO|apply jN|apply jT|refine Q1 ?_|refine Q0 ?_|refine Xp (h:=?_)|refine Z4 (h:=?_)|apply jB
 refine Qp (ι:=Nat × Nat × aj × List Nat) ⟨fun z=>[(8,iv ((z.1:Int)-1)),(7,uv z.2.1),(6,.slice (some ⟨b5,0,none⟩) n n),(0,v),(1,uv d)],fun z=>z.2.2.1++[],
  fun z=>z.1≤n∧aX z.2.2.1 (.slice (some ⟨b5,0,none⟩) n n) n z.2.2.2∧(∀ x∈z.2.2.2,x<W32)∧z.2.1<d∧val W32 (xs.drop z.1)=d*val W32 (z.2.2.2.drop z.1)+z.2.1,fun z=>z.1⟩
  (n, 0, _, _) ⟨V8 _, hO, fun x hx => by obtain ⟨a, _, rfl⟩ := List.mem_map.1 hx; decide, hd0, by
   show val W32 (xs.drop n)=d*val W32 ((tab n fun _=>0).drop n)+0
   rw[Z6 oq,Z6 (by simp[tab])];rfl⟩ aF Qy (fun z hz=>?_)
 clear hO
 obtain⟨j,r,N,zs⟩:=z
 obtain⟨hj,hO,hz,hr,hval⟩:=hz
 dsimp only at hj hO hz hr hval ⊢
 have hlz:=hO.len
 rcases j with _|q
 ·repeat' first|apply jS|apply jO|apply jN|apply jT|refine Q1 ?_|(refine Yx (h1:=?_) (h2:=?_)<;>intro hc<;>try omega)|apply jU|apply jE|refine Q4 rfl ?_|apply Qe
  refine Q5 trivial rfl rfl rfl (fun w hk hs=>Xn w _ _ _ _ (hO.rd.at hk hs Q6) oq) fun w v w' _ _ _ hR=>?_
  obtain⟨q,hq,rfl,hnq⟩:=hR
  repeat' first|apply jN|apply jT|refine Q1 ?_|refine Q0 ?_|apply jR
  have hown:=hO.hd hq
  rw[← hnq]at hown
  have iR:(nrm zs).length=q:=hown.len
  rw[List.drop_zero,List.drop_zero]at hval
  have hmod:val W32 xs % d=r:=by rw[hval,Nat.mul_add_mod,Nat.mod_eq_of_lt hr]
  have hdiv:val W32 xs / d=val W32 zs:=by rw[hval,Nat.mul_add_div hd0,Nat.div_eq_of_lt hr,Vt]
  refine YH rfl rfl (fun a w' st=>⟨st.kp,_,N,nrm zs,by rw[hmod],st.aS rfl Q6,by rw[iR];exact hown,dG.of hz,by rw[Zx,hdiv]⟩)
 ·have hiv:iv (((q+1:Nat):Int)-1)=nv q:=by
   show iv _=iv _
   congr 1
   omega
  rw[hiv]
  have hxq:xs.getD q 0<4294967296:=QF (b:=W32) dq hx q
  repeat' first|apply jS|apply jO|apply jD|apply jN|apply jT|refine Q1 ?_|refine Q0 ?_|refine Q7e (h:=?_)|refine Qc6 (h:=?_)|refine Zb (h:=?_)|refine YV (h:=?_)|refine Qc5 (h:=?_)|refine Qc4 (h:=?_)|(refine Yx (h1:=?_) (h2:=?_)<;>intro hc<;>try omega)|apply jK|refine Q8 rfl ?_|apply jB
  refine XL (A:=[]) hO rfl rfl aA rfl rfl oq (fun N' aU=>?_)
  repeat' first|apply jO|apply jN|apply jT|refine Q1 ?_|refine Q0 ?_|refine Xp (h:=?_)|apply jW
  refine Qa (q,_,N',_) ⟨by dsimp only;omega,aU,YR hz ?_,Nat.mod_lt _ hd0,?_⟩ aY aF Qy
  ·refine(Nat.div_lt_iff_lt_mul hd0).2 ?_
   show _<4294967296*d
   omega
  ·dsimp only
   rw[Za oq,Za (l:=zs.set q _) (by simp;omega),Wn,QO oq,hval]
   exact Qag rfl


theorem Qqj {s:Nat} (hs:s≤31) (x:Nat) (hx:x<4294967296):x*2 ^ (32-s) % 18446744073709551616 % 4294967296=2 ^ (32-s)*(x % 2 ^ s):=by
 have h1:x*2 ^ (32-s)<18446744073709551616:=by
  have h2:2 ^ (32-s)≤4294967296:=by
   have:=V4 (n:=2) dq (show 32-s≤32 by omega)
   simpa using this
  have:=Vr (show x≤4294967295 by omega) h2
  omega
 rw[Nat.mod_eq_of_lt h1,Q9d x (32-s) oq,show 32-(32-s)=s by omega]
theorem Qjn {s P A x:Nat} (hs:s≤31):(A+P*4294967296*x) / 2 ^ s=A / 2 ^ s+P*(2 ^ (32-s)*(x % 2 ^ s))+P*4294967296*(x / 2 ^ s):=by
 have hp:0<2 ^ s:=Nat.pow_pos dq
 have e:(4294967296:Nat)=2 ^ (32-s)*2 ^ s:=by rw[← Nat.pow_add,show 32-s+s=32 by omega]
 have e2:A+P*4294967296*x=A+2 ^ s*(P*(2 ^ (32-s)*(x % 2 ^ s))+P*4294967296*(x / 2 ^ s)):=by
  have h1:x=x % 2 ^ s+2 ^ s*(x / 2 ^ s):=(Nat.mod_add_div x (2 ^ s)).symm
  have h2:P*4294967296*x=P*4294967296*(x % 2 ^ s)+2 ^ s*(P*4294967296*(x / 2 ^ s)):=by
   conv=>lhs;rw[h1]
   rw[Vp,Nat.mul_left_comm]
  have h3:P*4294967296*(x % 2 ^ s)=2 ^ s*(P*(2 ^ (32-s)*(x % 2 ^ s))):=by
   conv=>lhs;rw[e]
   simp only[Nat.mul_left_comm,Vc,Vn]
  rw[h2,h3,Vp]
 rw[e2,Nat.add_mul_div_left _ _ hp,Nat.add_assoc]
theorem Qij (w:World) (v:Value) (n s:Nat) (xs:List Nat) (hv:WU w v n xs) (hx:∀ x∈xs,x<W32) (hs31:s≤31) (hn:n≤16000000000000) :
  Calls Tryz.prog 150 #[v,nv s] w (aP fun v w'=>Kp [] w w'∧∃ N zs,New N w w'∧aX N v zs.length zs∧dG W32 zs∧val W32 zs=val W32 xs / 2 ^ s):=by
 have hlx:=hv.len
 have hp0:0<2 ^ s:=Nat.pow_pos dq
 refine Q9 [⟨5,3,[],[]⟩,⟨7,3,[],[]⟩] [] au [] Tryz.func150 rfl mixed (by kernel_rfl) Tryz.ntmps150 Tryz.results150 rfl ⟨by simp,by simp⟩ au ?_
 simp only[toS,Qd,Qt,Qk,Ql,ay,Qg,QA,aC]
 repeat' first|apply jS|apply jO|apply jN|refine Q1 ?_|refine Q0 ?_|refine Z4 (h:=?_)|apply jT
 refine Yv (n:=n) rfl rfl rfl rfl rfl oq oq (fun b5=>?_)
 have hO:=Y8 b5 n (by simp only[maxLen];omega)
 repeat' first|apply jS|apply jO|apply jN|apply jT|refine Q1 ?_|refine Q0 ?_|refine Z4 (h:=?_)|apply jB
 refine Qp (ι:=Nat × aj × List Nat) ⟨fun z=>[(13,nv z.1),(12,nv n),(11,v),(5,.slice (some ⟨b5,0,none⟩) n n),(0,v),(1,nv s)],fun z=>z.2.1++[],
  fun z=>z.1≤n∧aX z.2.1 (.slice (some ⟨b5,0,none⟩) n n) n z.2.2∧(∀ x∈z.2.2,x<W32)∧(0<z.1→z.2.2.getD (z.1-1) 0<2 ^ (32-s))∧val W32 z.2.2=val W32 (xs.take z.1) / 2 ^ s∧∀ j,z.1≤j→z.2.2.getD j 0=0,fun z=>n-z.1⟩
  (0, _, _) ⟨V9 _, hO, fun x hx => by obtain ⟨a, _, rfl⟩ := List.mem_map.1 hx; decide, fun h => absurd h (Nat.lt_irrefl 0), by
   show val W32 (tab n fun _=>0)=_
   rw[Wu];simp[val],fun j _=>Xu _ j⟩ aF Qy (fun z hz=>?_)
 clear hO
 obtain⟨i,N,zs⟩:=z
 obtain⟨hi,hO,hz,hci,hval,hzero⟩:=hz
 dsimp only at hi hO hz hci hval hzero ⊢
 have hlz:=hO.len
 by_cases hin:i<n
 ·have hxi:xs.getD i 0<4294967296:=QF (b:=W32) dq hx i
  have hsh:xs.getD i 0 / 2 ^ s<4294967296:=V5 (Nat.div_le_self _ _) hxi
  have hlt32:xs.getD i 0 / 2 ^ s<2 ^ (32-s):=by
   refine(Nat.div_lt_iff_lt_mul hp0).2 ?_
   rw[← Nat.pow_add,show 32-s+s=32 by omega]
   exact hxi
  have hor1:zs.getD i 0 ||| xs.getD i 0 / 2 ^ s=xs.getD i 0 / 2 ^ s:=by rw[hzero i (V8 _),Nat.zero_or]
  have hzi:zs.getD i 0<4294967296:=QF (b:=W32) dq hz i
  repeat' first|apply jS|apply jO|apply jD|apply jN|apply jT|refine Q1 ?_|refine Q0 ?_|refine Zb (h:=?_)|refine YV (h:=?_)|refine XN (h:=?_)|(refine Qs (h1:=?_) (h2:=?_)<;>intro hc<;>try omega)|apply jK|refine Q8 rfl ?_|apply jB
  refine Qk5 (xs.getD i 0 / 2 ^ s) rfl rfl rfl rfl oq hor1 ?_
  repeat' first|refine Zb (h:=?_)|fail
  refine XL (A:=[]) hO rfl rfl aA rfl rfl oq (fun N1 bT=>?_)
  have e1:=XB (b:=W32) (l:=zs) (j:=i) (u:=xs.getD i 0 / 2 ^ s) oq
  rw[hzero i (V8 _),Nat.mul_zero,Vt]at e1
  by_cases hi0:0<i
  ·have hzp:zs.getD (i-1) 0<4294967296:=QF (b:=W32) dq hz (i-1)
   have hul:=Qqj hs31 _ hxi
   have hul2:2 ^ (32-s)*(xs.getD i 0 % 2 ^ s)<4294967296:=by rw[← hul];exact Nat.mod_lt _ dq
   have hor2:zs.getD (i-1) 0 ||| 2 ^ (32-s)*(xs.getD i 0 % 2 ^ s)=zs.getD (i-1) 0+2 ^ (32-s)*(xs.getD i 0 % 2 ^ s):=by
    rw[Nat.or_comm, ← Nat.two_pow_add_eq_or_of_lt (hci hi0),Nat.add_comm]
   have hor3:zs.getD (i-1) 0+2 ^ (32-s)*(xs.getD i 0 % 2 ^ s)<4294967296:=by rw[← hor2];exact Qas hzp hul2
   have hget:(zs.set i (xs.getD i 0 / 2 ^ s)).getD (i-1) 0=zs.getD (i-1) 0:=getD_set_ne oq
   have hsub:((32:Int)-(s:Int))=((32-s:Nat):Int):=by omega
   repeat' first|apply jS|apply jO|apply jD|apply jN|apply jT|refine Q1 ?_|refine YS (h:=?_)|refine Xp (h:=?_)|refine Zb (h:=?_)|refine YV (h:=?_)|(refine Zg (h1:=?_) (h2:=?_)<;>intro hc<;>try omega)|refine Q8 rfl ?_
   refine Q61 (j:=32-s) rfl rfl rfl (by first|rfl|exact congrArg (fun z=>some (Value.int .i64 z)) hsub) oq ?_
   repeat' first|refine Xi (h:=?_)|fail
   refine Qk5 (zs.getD (i-1) 0+2 ^ (32-s)*(xs.getD i 0 % 2 ^ s)) rfl rfl rfl rfl (by rw[hget,hul];omega) (by rw[hget,hul];exact hor2) ?_
   repeat' first|refine Zb (h:=?_)|fail
   refine XL (A:=[]) bT rfl rfl aA rfl rfl oq (fun N2 hO2=>?_)
   repeat' first|apply jO|apply jN|apply jT|refine Q1 ?_|refine Qj ?_|apply jW
   refine Qa (i+1,N2,_) ⟨by dsimp only;omega,hO2,YR (YR hz hsh) hor3,fun _=>?_,?_,fun j hj=>?_⟩ aY aF Qy
   ·dsimp only
    rw[Nat.add_sub_cancel,getD_set_ne oq,QO oq]
    exact hlt32
   ·dsimp only
    have e2:=XB (b:=W32) (l:=zs.set i (xs.getD i 0 / 2 ^ s)) (j:=i-1) (u:=zs.getD (i-1) 0+2 ^ (32-s)*(xs.getD i 0 % 2 ^ s)) (by simp;omega)
    rw[hget]at e2
    have e3:=Qjn (s:=s) (P:=W32 ^ (i-1)) (A:=val W32 (xs.take i)) (x:=xs.getD i 0) hs31
    have e4:W32 ^ (i-1)*4294967296=W32 ^ i:=by
     conv=>rhs;rw[show i=i-1+1 by omega,Va]
    rw[e4]at e3
    rw[QL,e3, ← hval]
    rw[Vp]at e2
    omega
   ·dsimp only at hj ⊢
    rw[getD_set_ne oq,getD_set_ne oq]
    exact hzero j oq
  ·obtain rfl:i=0:=by omega
   repeat' first|apply jS|apply jO|apply jN|apply jT|refine Q1 ?_|refine Qj ?_|(refine Zg (h1:=?_) (h2:=?_)<;>intro hc<;>try omega)|apply jK|refine Q4 rfl ?_|apply jW
   refine Qa (0+1,N1,_) ⟨by dsimp only;omega,bT,YR hz hsh,fun _=>?_,?_,fun j hj=>?_⟩ aY aF Qy
   ·dsimp only
    rw[QO oq]
    exact hlt32
   ·dsimp only
    rw[e1,hval,QL]
    simp[val]
   ·dsimp only at hj ⊢
    rw[getD_set_ne oq]
    exact hzero j oq
 ·repeat' first|apply jS|apply jO|apply jN|apply jT|refine Q1 ?_|(refine Qs (h1:=?_) (h2:=?_)<;>intro hc<;>try omega)|apply jU|apply jE|refine Q4 rfl ?_|apply Qe
  refine Q5 trivial rfl rfl rfl (fun w hk hs=>Xn w _ _ _ _ (hO.rd.at hk hs Q6) oq) fun w v w' _ _ _ hR=>?_
  obtain⟨q,hq,rfl,hnq⟩:=hR
  repeat' first|apply jN|apply jT|refine Q0 ?_|apply jR
  have hown:=hO.hd hq
  rw[← hnq]at hown
  have iR:(nrm zs).length=q:=hown.len
  refine Qn rfl (fun a w' st=>⟨st.kp,N,nrm zs,st.aS rfl Q6,by rw[iR];exact hown,dG.of hz,?_⟩)
  rw[Zx,hval,Vf oq]


structure GivesD (v:Value) (xs ys:List Nat) (w:World) (r:Value) (w':World):Prop where
 ex:∃ N1 N2 v1 v2 zs rs,r=.tuple #[v1,v2]∧New (N1++N2) w w'∧aX N1 v1 zs.length zs∧(aX N2 v2 rs.length rs∨(N2=[]∧v2=v∧rs=xs))∧dG W32 zs∧dG W32 rs∧val W32 xs=val W32 zs*val W32 ys+val W32 rs∧val W32 rs<val W32 ys

theorem Qjm {b:Nat} {ys:List Nat} (h:ys.length=1):val b ys=ys.getD 0 0:=by
 match ys,h with
 | [y],_=>simp[val]

theorem Qd4 {A P z V D W Z T U:Nat} (hU:U=z+V*D) (h:A+P*U+V*(P*W*Z)=T):A+P*z+V*(P*(D+W*Z))=T:=by
 subst hU
 rw[← h]
 simp only[Vp,Vn,Nat.mul_left_comm P V D]
 omega

theorem Qtk (w:World) (v u:Value) (n k:Nat) (xs ys:List Nat) (hv:WU w v n xs) (hu:WU w u k ys) (hx:dG W32 xs) (hy:dG W32 ys) (h0:0<val W32 ys) (hn:n≤8300000000000) (hk:k≤8300000000000) :
  Calls Tryz.prog 122 #[v,u] w (aP fun r w'=>Kp [] w w'∧GivesD v xs ys w r w'):=by
 have hlx:=hv.len
 have hly:=hu.len
 have hk0:0<k:=by
  rcases Nat.eq_zero_or_pos k with h|h
  ·subst h
   rw[List.eq_nil_of_length_eq_zero hly]at h0
   exact absurd h0 (Nat.lt_irrefl 0)
  ·exact h
 refine Q9 [⟨11,1,[],[]⟩,⟨16,1,[],[]⟩,⟨17,8,[],[]⟩] [] au [] Tryz.func122 rfl mixed (by kernel_rfl) Tryz.ntmps122 Tryz.results122 rfl ⟨by simp,by simp⟩ au ?_
 simp only[toS,Qd,Qt,Qk,Ql,ay,Qg,QA,aC]
 repeat' first|apply jS|apply jO|apply jN|refine Q1 ?_|refine Q0 ?_|apply jT
 refine Q5 trivial rfl rfl rfl (fun w hk' hs=>Qpx w _ _ _ _ _ _ (hv.mono hk') (hu.mono hk') hx hy oq oq) fun w v w' _ _ _ hR=>?_
 subst hR
 by_cases hlt:val W32 xs<val W32 ys
 ·have hneg:=YM.2 hlt
  repeat' first|apply jS|apply jO|apply jN|apply jT|refine Q1 ?_|refine Q0 ?_|(refine Qs (h1:=?_) (h2:=?_)<;>intro hc<;>try omega)|apply jV|apply jR|refine Q8 rfl ?_
  exact YH rfl rfl (fun a w' st=>⟨st.kp,⟨[],[],_,_,[],xs,rfl,New.nil _ _,aX.nil,.inr ⟨rfl,rfl,rfl⟩,dG.nil _,hx,by simp[val],hlt⟩⟩)
 have hneg:¬fF (val W32 xs) (val W32 ys)<0:=fun h=>hlt (YM.1 h)
 have hkn:k≤n:=by
  refine Vg fun h=>hlt ?_
  exact YX dq hx hy oq
 by_cases hk1:k=1
 ·subst hk1
  have hd1:ys.getD 0 0<4294967296:=QF (b:=W32) dq hy.lt 0
  have hvy:=Qjm (b:=W32) hly
  rw[hvy]at h0
  repeat' first|apply jS|apply jO|apply jN|apply jT|refine Q1 ?_|refine Zb (h:=?_)|refine YV (h:=?_)|refine Z4 (h:=?_)|(refine Qs (h1:=?_) (h2:=?_)<;>intro hc<;>try omega)|(refine Z9 (h1:=?_) (h2:=?_)<;>intro hc<;>try omega)|apply jK|refine Q8 rfl ?_|refine Q4 rfl ?_
  refine Qf (A:=[]) rfl trivial rfl rfl rfl (fun w hk hs=>Qpo w _ _ _ _ (hv.mono hk) hx.lt h0 hd1 oq) fun w v w' _ _ _ hR=>?_
  obtain⟨v1,N1,zs,rfl,hN1,bT,hz1,aV⟩:=hR
  refine⟨N1,hN1,?_⟩
  repeat' first|apply jS|apply jO|apply jN|refine Q1 ?_|refine Q0 ?_|refine Qv (h:=?_)|refine QG (h:=fun _=>?_)|apply jT
  rename_i b3
  have hO3:aX [(b3,.cells ⟨[uv (val W32 xs % ys.getD 0 0)]⟩ 80)] (.slice (some ⟨b3,0,none⟩) 1 1) 1 [val W32 xs % ys.getD 0 0]:=Xy b3 1 [val W32 xs % ys.getD 0 0] _ rfl rfl oq
  refine Q5 trivial rfl rfl rfl (fun w hk hs=>Xn w _ _ _ _ (hO3.rd.at hk hs Q6) oq) fun w v w' _ _ _ hR=>?_
  obtain⟨k3,hk3,rfl,hn3⟩:=hR
  have hO3':=hO3.hd hk3
  rw[← hn3]at hO3'
  have hl3:(nrm [val W32 xs % ys.getD 0 0]).length=k3:=hO3'.len
  have hmod:=Nat.mod_lt (val W32 xs) h0
  repeat' first|apply jN|apply jT|refine Q0 ?_|apply jV|apply jR
  refine YH rfl rfl (fun a w' st=>⟨st.kp,⟨N1,_,_,_,zs,nrm [val W32 xs % ys.getD 0 0],rfl,st.aS (N:=N1++[(b3,.cells ⟨[uv (val W32 xs % ys.getD 0 0)]⟩ 80)]) rfl ?_,bT,.inl (by rw[hl3];exact hO3'),hz1,dG.of fun x hx'=>?_,?_,?_⟩⟩)
  ·refine⟨[],?_⟩
   simp only[Vj,Vv]
   exact List.perm_append_comm (l₁:=[_])
  ·rw[List.mem_singleton]at hx'
   rw[hx']
   show _<4294967296
   omega
  ·rw[hvy,W5,aV,Vc]
   exact(Nat.div_add_mod _ _).symm
  ·rw[hvy,W5];exact hmod
 have hne:ys≠[]:=fun e=>by subst e;simp at hly;omega
 have htlt:ys.getD (k-1) 0<4294967296:=QF (b:=W32) dq hy.lt (k-1)
 have ht0:0<ys.getD (k-1) 0:=by
  refine Nat.pos_of_ne_zero fun e=>?_
  have h1:=Qbn (b:=W32) dq hy.nrm hne
  rw[hly]at h1
  have h2:=Ya W32 ys (k-1) oq
  rw[Za oq,e,Z6 oq]at h2
  have h3:=YD hy.lt (k:=k-1) oq
  simp only[Nat.mul_zero,Vt]at h2
  omega
 repeat' first|apply jS|apply jO|apply jN|apply jT|refine Q1 ?_|refine Q0 ?_|refine Z4 (h:=?_)|(refine Qs (h1:=?_) (h2:=?_)<;>intro hc<;>try omega)|(refine Z9 (h1:=?_) (h2:=?_)<;>intro hc<;>try omega)|apply jK|refine Q4 rfl ?_|apply jB
 refine Qp (ι:=Nat) ⟨fun s=>[(8,nv s),(0,v),(1,u)],fun _=>[],fun s=>s≤31∧ys.getD (k-1) 0*2 ^ s<4294967296,fun s=>32-s⟩ 0 ⟨by omega,by simpa using htlt⟩ aF Qy (fun s hs=>?_)
 obtain⟨hs31,hts⟩:=hs
 dsimp only at hs31 hts ⊢
 by_cases htop:ys.getD (k-1) 0*2 ^ s / 2 ^ 31=0
 ·have hsm:ys.getD (k-1) 0*2 ^ s<2147483648:=by
   have:=(Nat.div_eq_zero_iff).1 htop
   omega
  have hs30:s+1≤31:=by
   refine Vg fun h=>?_
   obtain rfl:s=31:=by omega
   have:=V1 (2 ^ 31) ht0
   omega
  repeat' first|apply jS|refine Q1 ?_|refine YS (h:=?_)|refine Zb (h:=?_)|refine YV (h:=?_)|refine Z4 (h:=?_)|refine Q61 (h:=?_)|apply jO
  rw[Nat.mod_eq_of_lt (show ys.getD (k-1) 0*2 ^ s<18446744073709551616 by omega)]
  refine XN (j:=31) rfl rfl rfl rfl oq ?_
  rw[htop]
  repeat' first|apply jO|apply jN|apply jT|refine Q1 ?_|refine Q0 ?_|refine Qj ?_|(refine Z9 (h1:=?_) (h2:=?_)<;>intro hc<;>try omega)|apply jK|refine Q8 rfl ?_|apply jB|apply jW
  exact Qa (s+1) ⟨hs30,by rw[Va, ← Vn];omega⟩ aY aF Qy
 repeat' first|apply jS|refine Q1 ?_|refine YS (h:=?_)|refine Zb (h:=?_)|refine YV (h:=?_)|refine Z4 (h:=?_)|refine Q61 (h:=?_)|apply jO
 rw[Nat.mod_eq_of_lt (show ys.getD (k-1) 0*2 ^ s<18446744073709551616 by omega)]
 refine XN (j:=31) rfl rfl rfl rfl oq ?_
 repeat' first|apply jS|apply jO|apply jN|apply jT|refine Q1 ?_|(refine Z9 (h1:=?_) (h2:=?_)<;>intro hc<;>try omega)|apply jU|apply jE|refine Q4 rfl ?_|apply Qe
 refine Qf (A:=[]) rfl trivial rfl rfl rfl (fun w hk hs=>Qin w _ _ _ _ (hv.mono hk) hx.lt hs31 oq) fun w v w' _ _ _ hR=>?_
 obtain⟨Nu,us0,hNu,hOu,hu0,hutop,hval0⟩:=hR
 obtain⟨bu,iH,gK,rfl,rfl,hcu,hru,hmu⟩:=hOu.blk oq
 refine⟨_,hNu,?_⟩
 repeat' first|refine Q1 ?_|fail
 refine Qf (A:=[_]) rfl trivial rfl rfl rfl (fun w hk' hs=>Qin w _ _ _ _ (hu.mono hk') hy.lt hs31 oq) fun w v w' _ _ _ hR=>?_
 obtain⟨Nv,vs0,hNv,hOv,hv0,_,hvalv⟩:=hR
 obtain⟨bv,capv,restv,rfl,rfl,hcv,hrv,hmv⟩:=hOv.blk oq
 refine⟨_,hNv,?_⟩
 skip
 refine Q5 trivial rfl rfl rfl (fun w hk hs=>Xn w _ _ _ _ (hOv.rd.at hk hs Q6) oq) fun w v w' _ _ _ hR=>?_
 obtain⟨kv,hkv,rfl,hnv⟩:=hR
 have hOv1:=hOv.hd hkv
 rw[← hnv]at hOv1
 have hDv:dG W32 (nrm vs0):=dG.of hv0
 have hVv:val W32 (nrm vs0)=2 ^ s*val W32 ys:=by rw[Zx,hvalv]
 obtain⟨hlv,hVge⟩:=Qfz hs31 hly hk0 hy hts hDv hVv
 obtain rfl:kv=k:=by rw[← hlv];exact hOv1.len.symm
 have hlu0:=hOu.len
 have hV0:0<val W32 (nrm vs0):=by rw[hVv];exact Nat.mul_pos (Nat.pow_pos dq) h0
 have hbig:=Qfy hu0 hlu0 oq hkn hutop hVge
 generalize nrm vs0=vs at hnv hOv1 hDv hVv hlv hVge hV0 hbig
 clear hvalv hnv
 repeat' first|apply jS|apply jO|apply jN|refine Q1 ?_|refine Q0 ?_|refine YB (h:=?_)|refine Wq (h:=?_)|apply jT
 refine Yv (n:=n+1-kv) rfl rfl rfl rfl rfl oq oq (fun bq=>?_)
 have hOq:=Y8 bq (n+1-kv) (by simp only[maxLen];omega)
 have htv:vs.getD (kv-1) 0<4294967296:=QF (b:=W32) dq hDv.lt (kv-1)
 have hsv:vs.getD (kv-2) 0<4294967296:=QF (b:=W32) dq hDv.lt (kv-2)
 have htv0:0<vs.getD (kv-1) 0:=by
  refine Nat.pos_of_ne_zero fun e=>?_
  have h2:=Ya W32 vs (kv-1) oq
  rw[Za oq,e,Z6 oq]at h2
  have h3:=YD hDv.lt (k:=kv-1) oq
  simp only[Nat.mul_zero,Vt]at h2
  have:=Nat.le_mul_of_pos_left (W32 ^ (kv-1)) (Nat.pow_pos (n:=s) (show 0<2 by decide))
  have hVge':2 ^ s*W32 ^ (kv-1)≤val W32 vs:=hVge
  omega
 repeat' first|apply jS|apply jO|apply jD|apply jN|apply jT|refine Q1 ?_|refine Q0 ?_|refine YB (h:=?_)|refine YS (h:=?_)|refine Q8x (h:=?_)|refine Zb (h:=?_)|refine YV (h:=?_)|apply jB
 rw[show (Value.int IntKind.i64 ((n+1-kv-1:Nat):Int))=iv (((n+1-kv:Nat):Int)-1) from by congr 1;omega]
 have hvs:vs.length=kv:=hlv
 refine Qp (ι:=Nat × List Nat × aj × List Nat) ⟨fun z=>[(14,iv ((z.1:Int)-1)),(13,uv (vs.getD (kv-2) 0)),(12,uv (vs.getD (kv-1) 0)),(11,.slice (some ⟨bq,0,none⟩) (n+1-kv) (n+1-kv)),(10,.slice (some ⟨bv,0,none⟩) kv capv),(9,.slice (some ⟨bu,0,none⟩) (n+1) iH),(8,nv s)],
  fun z=>(bu,.cells (ZI z.2.1 gK) 80 (0,0))::(bv,.cells (ZI vs0 restv) 80 (0,0))::(z.2.2.1++[]),
  fun z=>z.1≤n+1-kv∧z.2.1.length=n+1∧(∀ x∈z.2.1,x<W32)∧aX z.2.2.1 (.slice (some ⟨bq,0,none⟩) (n+1-kv) (n+1-kv)) (n+1-kv) z.2.2.2∧(∀ x∈z.2.2.2,x<W32)∧val W32 (z.2.1.drop z.1)<val W32 vs∧val W32 z.2.1+val W32 vs*(W32 ^ z.1*val W32 (z.2.2.2.drop z.1))=2 ^ s*val W32 xs,fun z=>z.1⟩
  (n + 1 - kv, us0, _, _) ⟨V8 _, hlu0, hu0, hOq, fun x hx => by obtain ⟨a, _, rfl⟩ := List.mem_map.1 hx; decide, hbig, by
   show val W32 us0+val W32 vs*(W32 ^ (n+1-kv)*val W32 ((tab (n+1-kv) fun _=>0).drop (n+1-kv)))=_
   rw[Z6 (by simp[tab]),Nat.mul_zero,Nat.mul_zero,Vt,hval0]⟩ aF (by exact HSub.at 1 rfl (HSub.at 1 rfl (HSub.at 0 rfl (HSub.nil _)))) (fun z hz=>?_)
 clear hOu hOq hlu0 hu0 hutop hval0 hbig hNu
 obtain⟨j,us,Nq,qs⟩:=z
 obtain⟨hj,hlu,hu0,hOq,hqs,hdr,hval⟩:=hz
 dsimp only at hj hlu hu0 hOq hqs hdr hval ⊢
 have hOu:aX [(bu,.cells (ZI us gK) 80 (0,0))] (.slice (some ⟨bu,0,none⟩) (n+1) iH) (n+1) us:=Q34 hlu hcu hru hmu
 have hlq:=hOq.len
 rcases j with _|i
 ·repeat' first|apply jS|apply jO|apply jN|apply jT|refine Q1 ?_|(refine Yx (h1:=?_) (h2:=?_)<;>intro hc<;>try omega)|apply jU|apply jE|refine Q4 rfl ?_|apply Qe
  refine Q5 trivial rfl rfl rfl (fun w hk hs=>Xn w _ _ _ _ (hOq.rd.at hk hs Q6) oq) fun w v w' _ _ _ hR=>?_
  obtain⟨kq,hkq,rfl,hnq⟩:=hR
  have iI:=hOq.hd hkq
  rw[← hnq]at iI
  have iR:(nrm qs).length=kq:=iI.len
  repeat' first|refine Q1 ?_|fail
  refine Q5 trivial rfl rfl rfl (fun w hk hs=>Xn w _ _ _ _ (hOu.rd.at hk hs Q6) oq) fun w v w' _ _ _ hR=>?_
  obtain⟨ku,hku,rfl,hnu⟩:=hR
  have hOu':=hOu.hd hku
  rw[← hnu]at hOu'
  have hDu:dG W32 (nrm us):=dG.of hu0
  repeat' first|refine Q1 ?_|fail
  refine Qf (A:=[_,_]) rfl trivial rfl rfl rfl (fun w hk hs=>Qij w _ _ _ _ (hOu'.rd.at hk hs Q6) hDu.lt hs31 oq) fun w v w' _ _ _ hR=>?_
  obtain⟨Nr,rs,hNr,hOr,hr,hvr⟩:=hR
  refine⟨Nr,hNr,?_⟩
  rw[Zx]at hvr
  simp only[List.drop_zero,Nat.pow_zero,Nat.one_mul]at hdr hval
  rw[hVv]at hval hdr
  have hfin:=Qhx (Nat.pow_pos dq) hval hdr
  repeat' first|apply jN|apply jT|refine Q0 ?_|apply jR
  exact YH rfl rfl (fun a w' st=>⟨st.kp,⟨Nq,Nr,_,_,nrm qs,rs,rfl,st.aS rfl (by
   refine HSub.trans ?_ (HSub.skip (HSub.skip (HSub.refl _)))
   exact⟨[],by simpa using List.perm_append_comm⟩),by rw[iR];exact iI,.inl hOr,dG.of hqs,hr,by rw[Zx,hvr];exact hfin.1,by rw[hvr];exact hfin.2⟩⟩)
 have hiv:iv (((i+1:Nat):Int)-1)=nv i:=by
  show iv _=iv _
  congr 1
  omega
 rw[hiv]
 have hst:=Qox (W:=W32) hu0 hDv.lt hlv oq (show i+kv<us.length by omega) hdr
 have ha:us.getD (i+kv) 0<4294967296:=QF (b:=W32) dq hu0 _
 have hb:us.getD (i+kv-1) 0<4294967296:=QF (b:=W32) dq hu0 _
 have hcc:us.getD (i+kv-2) 0<4294967296:=QF (b:=W32) dq hu0 _
 repeat' first|apply jS|apply jO|apply jD|apply jN|apply jT|refine Q1 ?_|refine Q0 ?_|refine YB (h:=?_)|refine Zf (h:=?_)|refine YS (h:=?_)|refine Q7e (h:=?_)|refine Qc6 (h:=?_)|refine Zb (h:=?_)|refine YV (h:=?_)|refine Qc5 (h:=?_)|refine Qc4 (h:=?_)|(refine Yx (h1:=?_) (h2:=?_)<;>intro hc<;>try omega)|apply jK|refine Q8 rfl ?_|apply jB
 obtain⟨hUlt,⟨lv,hlv1,hVeq⟩,⟨lu,hlu1,hUeq⟩,hhead,htail⟩:=hst
 have hq0:=Qku htv0 hVeq hUeq hcc hlu1
 refine Qp (ι:=Nat × Nat) ⟨fun y=>[(17,uv y.1),(18,uv y.2),(15,nv (i+kv)),(14,nv i),(13,uv (vs.getD (kv-2) 0)),(12,uv (vs.getD (kv-1) 0)),(11,.slice (some ⟨bq,0,none⟩) (n+1-kv) (n+1-kv)),(10,.slice (some ⟨bv,0,none⟩) kv capv),(9,.slice (some ⟨bu,0,none⟩) (n+1) iH),(8,nv s)],
  fun _=>(bu,.cells (ZI us gK) 80 (0,0))::(bv,.cells (ZI vs0 restv) 80 (0,0))::(Nq++[]),
  fun y=>us.getD (i+kv) 0*4294967296+us.getD (i+kv-1) 0=y.1*vs.getD (kv-1) 0+y.2∧val W32 (us.drop i) / val W32 vs≤y.1,fun y=>y.1⟩
  ((us.getD (i+kv) 0*4294967296+us.getD (i+kv-1) 0) / vs.getD (kv-1) 0,(us.getD (i+kv) 0*4294967296+us.getD (i+kv-1) 0) % vs.getD (kv-1) 0) ⟨by dsimp only;rw[Vc _ (vs.getD (kv-1) 0)];exact(Nat.div_add_mod _ _).symm,hq0⟩ aF Qy (fun y hyy=>?_)
 obtain⟨G,R⟩:=y
 obtain⟨hGR,hqG⟩:=hyy
 dsimp only at hGR hqG ⊢
 have hGle:G≤G*vs.getD (kv-1) 0:=Nat.le_mul_of_pos_right _ htv0
 have hqW:val W32 (us.drop i) / val W32 vs<4294967296:=Nat.div_lt_of_lt_mul hUlt
 have hdecr:∀ g r,g*vs.getD (kv-1) 0+r=G*vs.getD (kv-1) 0+R→g+1=G→r=R+vs.getD (kv-1) 0:=by
  intro g r h1 h2
  rw[← h2,Vo,Nat.one_mul]at h1
  omega
 have hround:1≤G→us.getD (i+kv) 0*4294967296+us.getD (i+kv-1) 0=(G-1)*vs.getD (kv-1) 0+(R+vs.getD (kv-1) 0):=by
  intro h1
  have:G*vs.getD (kv-1) 0=(G-1)*vs.getD (kv-1) 0+vs.getD (kv-1) 0:=by
   conv=>lhs;rw[show G=G-1+1 by omega,Vo,Nat.one_mul]
  omega
 by_cases hg:4294967295<G
 ·repeat' first|apply jS|apply jO|apply jN|apply jT|refine Q1 ?_|refine Q0 ?_|refine QD (h:=?_)|refine Q4l (h:=?_)|refine Qcc (h:=?_)|(refine Zg (h1:=?_) (h2:=?_)<;>intro hc<;>try omega)|apply jK|refine Q8 rfl ?_|apply jB|refine QU (h:=?_)|apply jW
  exact Qa (G-1,R+vs.getD (kv-1) 0) ⟨hround oq,by dsimp only;omega⟩ aY aF Qy
 have hgs:=Q9b (show G<4294967296 by omega) hsv
 have hout:G*(vs.getD (kv-1) 0*W32+vs.getD (kv-2) 0)≤(us.getD (i+kv) 0*W32+us.getD (i+kv-1) 0)*W32+us.getD (i+kv-2) 0∨(R≤4294967295∧R*4294967296+us.getD (i+kv-2) 0<G*vs.getD (kv-2) 0):=by
  by_cases h:R≤4294967295∧R*4294967296+us.getD (i+kv-2) 0<G*vs.getD (kv-2) 0
  ·exact .inr h
  ·refine .inl (Qrz hGR (by show G<4294967296;omega) hsv ?_)
   show 4294967296≤R∨G*vs.getD (kv-2) 0≤R*4294967296+us.getD (i+kv-2) 0
   omega
 by_cases hdec:R≤4294967295∧R*4294967296+us.getD (i+kv-2) 0<G*vs.getD (kv-2) 0
 ·obtain⟨hR1,hR2⟩:=hdec
  have hG1:1≤G:=by
   rcases Nat.eq_zero_or_pos G with h|h
   ·subst h;rw[Nat.zero_mul]at hR2;omega
   ·exact h
  have hqlt:val W32 (us.drop i) / val W32 vs<G:=by
   refine Qs1 (V2:=vs.getD (kv-1) 0*4294967296+vs.getD (kv-2) 0) (U3:=(us.getD (i+kv) 0*4294967296+us.getD (i+kv-1) 0)*4294967296+us.getD (i+kv-2) 0) hVeq hUeq hlu1 ?_
   rw[hGR,Vp,Vo,Vn G]
   omega
  repeat' first|apply jS|apply jO|apply jN|apply jT|refine Q1 ?_|refine Q0 ?_|refine Q8x (h:=?_)|refine QD (h:=?_)|refine QC (h:=?_)|refine Q7e (h:=?_)|refine Qc6 (h:=?_)|refine Zb (h:=?_)|refine YV (h:=?_)|refine Q4l (h:=?_)|refine Qgi (h:=?_)|refine Qcc (h:=?_)|(refine Q7f (h1:=?_) (h2:=?_)<;>intro hc<;>try omega)|(refine Zg (h1:=?_) (h2:=?_)<;>intro hc<;>try omega)|apply jK|refine Q8 rfl ?_|apply jB|apply jW
  exact Qa (G-1,R+vs.getD (kv-1) 0) ⟨hround hG1,by dsimp only;omega⟩ aY aF Qy
 have hout1:=hout.resolve_right hdec
 have hV2:4294967296≤vs.getD (kv-1) 0*W32+vs.getD (kv-2) 0:=by
  have h1:1*4294967296≤vs.getD (kv-1) 0*4294967296:=V1 _ htv0
  exact V0 oq (Nat.le_add_right _ _)
 have hGq:=Qs0 (g:=G) hVeq hlv1 (V7 dq hV2) hUeq hout1 (V0 oq (Nat.le_succ_of_le hV2))
 by_cases hRm:R≤4294967295
 ·have hR2:¬R*4294967296+us.getD (i+kv-2) 0<G*vs.getD (kv-2) 0:=fun h=>hdec ⟨hRm,h⟩
  repeat' first|apply jS|apply jO|apply jN|apply jT|refine Q1 ?_|refine Q8x (h:=?_)|refine QD (h:=?_)|refine QC (h:=?_)|refine Q7e (h:=?_)|refine Qc6 (h:=?_)|refine Zb (h:=?_)|refine YV (h:=?_)|refine Qgi (h:=?_)|(refine Q7f (h1:=?_) (h2:=?_)<;>intro hc<;>try omega)|(refine Zg (h1:=?_) (h2:=?_)<;>intro hc<;>try omega)|apply jU|apply jE|refine Q4 rfl ?_|apply Qe
  refine Q60 (o':=i) rfl rfl rfl rfl (Vu _) oq oq ?_
  repeat' first|refine Q1 ?_|fail
  refine Q5 trivial rfl rfl rfl (fun w hk hs=>by
   have hw:=Q8i (o:=i) (k:=n+1-i) (cc:=iH-i) (Yo hs 0 rfl) oq oq
   rw[Vf (by simp;omega)]at hw
   exact Qmv w bu i (n+1-i) (iH-i) kv G (us.drop i) vs _ hw (hOv1.rd.at hk hs Q6) oq (fun x hx=>hu0 x (List.mem_of_mem_drop hx)) hDv.lt oq oq) fun w v w' _ _ _ hR=>?_
  subst hR
  rw[hhead]
  by_cases hl:val W32 (us.drop i)<val W32 vs*G
  ·rw[decide_eq_true hl]
   have hD:G-1=val W32 (us.drop i) / val W32 vs:=by
    have h1:=Nat.div_lt_of_lt_mul hl
    generalize val W32 (us.drop i) / val W32 vs=q at *
    omega
   have hG1:1≤G:=by
    have h1:=Nat.div_lt_of_lt_mul hl
    generalize val W32 (us.drop i) / val W32 vs=q at *
    omega
   have hDlt:G-1<4294967296:=by omega
   repeat' first|apply jS|apply jO|apply jN|apply jT|refine Q1 ?_|refine Q0 ?_|refine Qcc (h:=?_)|refine Q8 rfl ?_
   refine Q60 (o':=i) rfl rfl rfl rfl (Vu _) oq oq ?_
   repeat' first|refine Q1 ?_|fail
   refine Z2 (A:=[]) (N:=[_]) (B:=(bv,.cells (ZI vs0 restv) 80 (0,0))::(Nq++[])) rfl trivial rfl rfl rfl (fun w hk hs=>by
    have c:=Qdk w bu i iH kv (G-1) capv us vs _ gK (Yo hs 0 rfl) oq (hOv1.rd.at hk hs Q6) (fun _=>by simpa using (Qky hs 1 0 rfl rfl dq)) oq hu0 hDv.lt hDlt oq (by rw[hhead,hD];exact Nat.mul_div_le _ _) oq
    rw[hlu]at c
    exact c) fun w v w' _ _ _ hR=>?_
   obtain⟨zs,hzl,hz,hvz,hbl⟩:=hR
   refine⟨[(bu,.cells (ZI (put i (kv+1) zs us) gK) 80 (0,0))],rfl,fun p hp=>by cases List.mem_singleton.1 hp;exact hbl,?_⟩
   repeat' first|apply jO|apply jN|refine Q1 ?_|refine Zb (h:=?_)|apply jT
   refine XL (A:=[_,_]) hOq rfl rfl trivial rfl rfl oq (fun Nq' iI=>?_)
   repeat' first|apply jO|apply jN|apply jT|refine Q1 ?_|refine Q0 ?_|refine Xp (h:=?_)|apply jW
   have hput:=Q6w (b:=W32) (zs:=zs) (show i+(kv+1)≤us.length by omega) htail
   rw[hhead]at hvz
   refine Qa (i,put i (kv+1) zs us,Nq',_) ⟨by dsimp only;omega,by dsimp only;rw[WA oq hzl];exact hlu,Qce dq hu0 hz.lt,iI,YR hqs hDlt,?_,?_⟩ aY aF Qy
   ·dsimp only
    rw[hput]
    rw[hD]at hvz
    have hm:=Nat.mod_lt (val W32 (us.drop i)) hV0
    have hdm:=Nat.div_add_mod (val W32 (us.drop i)) (val W32 vs)
    omega
   ·dsimp only
    have e1:=Ya W32 (put i (kv+1) zs us) i (by rw[WA oq hzl];omega)
    rw[Q3k oq,hput]at e1
    rw[e1,Za (l:=qs.set i _) (by simp;omega),QO oq,Wn]
    have e2:=Ya W32 us i oq
    rw[e2,Va]at hval
    exact Qd4 hvz.symm hval
  ·rw[decide_eq_false hl]
   have hD:G=val W32 (us.drop i) / val W32 vs:=by
    have h1:G≤val W32 (us.drop i) / val W32 vs:=(Nat.le_div_iff_mul_le hV0).2 (by rw[Vc];omega)
    exact Nat.le_antisymm h1 hqG
   have hDlt:G<4294967296:=by omega
   repeat' first|apply jS|apply jO|apply jN|apply jT|refine Q1 ?_|apply jK|refine Q4 rfl ?_
   refine Q60 (o':=i) rfl rfl rfl rfl (Vu _) oq oq ?_
   repeat' first|refine Q1 ?_|fail
   refine Z2 (A:=[]) (N:=[_]) (B:=(bv,.cells (ZI vs0 restv) 80 (0,0))::(Nq++[])) rfl trivial rfl rfl rfl (fun w hk hs=>by
    have c:=Qdk w bu i iH kv (G) capv us vs _ gK (Yo hs 0 rfl) oq (hOv1.rd.at hk hs Q6) (fun _=>by simpa using (Qky hs 1 0 rfl rfl dq)) oq hu0 hDv.lt hDlt oq (by rw[hhead,hD];exact Nat.mul_div_le _ _) oq
    rw[hlu]at c
    exact c) fun w v w' _ _ _ hR=>?_
   obtain⟨zs,hzl,hz,hvz,hbl⟩:=hR
   refine⟨[(bu,.cells (ZI (put i (kv+1) zs us) gK) 80 (0,0))],rfl,fun p hp=>by cases List.mem_singleton.1 hp;exact hbl,?_⟩
   repeat' first|apply jO|apply jN|refine Q1 ?_|refine Zb (h:=?_)|apply jT
   refine XL (A:=[_,_]) hOq rfl rfl trivial rfl rfl oq (fun Nq' iI=>?_)
   repeat' first|apply jO|apply jN|apply jT|refine Q1 ?_|refine Q0 ?_|refine Xp (h:=?_)|apply jW
   have hput:=Q6w (b:=W32) (zs:=zs) (show i+(kv+1)≤us.length by omega) htail
   rw[hhead]at hvz
   refine Qa (i,put i (kv+1) zs us,Nq',_) ⟨by dsimp only;omega,by dsimp only;rw[WA oq hzl];exact hlu,Qce dq hu0 hz.lt,iI,YR hqs hDlt,?_,?_⟩ aY aF Qy
   ·dsimp only
    rw[hput]
    rw[hD]at hvz
    have hm:=Nat.mod_lt (val W32 (us.drop i)) hV0
    have hdm:=Nat.div_add_mod (val W32 (us.drop i)) (val W32 vs)
    omega
   ·dsimp only
    have e1:=Ya W32 (put i (kv+1) zs us) i (by rw[WA oq hzl];omega)
    rw[Q3k oq,hput]at e1
    rw[e1,Za (l:=qs.set i _) (by simp;omega),QO oq,Wn]
    have e2:=Ya W32 us i oq
    rw[e2,Va]at hval
    exact Qd4 hvz.symm hval
 ·repeat' first|apply jS|apply jO|apply jN|apply jT|refine Q1 ?_|refine QC (h:=?_)|(refine Q7f (h1:=?_) (h2:=?_)<;>intro hc<;>try omega)|(refine Zg (h1:=?_) (h2:=?_)<;>intro hc<;>try omega)|apply jU|refine Q4 rfl ?_|apply Qe|refine QU (h:=?_)|apply jE
  refine Q60 (o':=i) rfl rfl rfl rfl (Vu _) oq oq ?_
  repeat' first|refine Q1 ?_|fail
  refine Q5 trivial rfl rfl rfl (fun w hk hs=>by
   have hw:=Q8i (o:=i) (k:=n+1-i) (cc:=iH-i) (Yo hs 0 rfl) oq oq
   rw[Vf (by simp;omega)]at hw
   exact Qmv w bu i (n+1-i) (iH-i) kv G (us.drop i) vs _ hw (hOv1.rd.at hk hs Q6) oq (fun x hx=>hu0 x (List.mem_of_mem_drop hx)) hDv.lt oq oq) fun w v w' _ _ _ hR=>?_
  subst hR
  rw[hhead]
  by_cases hl:val W32 (us.drop i)<val W32 vs*G
  ·rw[decide_eq_true hl]
   have hD:G-1=val W32 (us.drop i) / val W32 vs:=by
    have h1:=Nat.div_lt_of_lt_mul hl
    generalize val W32 (us.drop i) / val W32 vs=q at *
    omega
   have hG1:1≤G:=by
    have h1:=Nat.div_lt_of_lt_mul hl
    generalize val W32 (us.drop i) / val W32 vs=q at *
    omega
   have hDlt:G-1<4294967296:=by omega
   repeat' first|apply jS|apply jO|apply jN|apply jT|refine Q1 ?_|refine Q0 ?_|refine Qcc (h:=?_)|refine Q8 rfl ?_
   refine Q60 (o':=i) rfl rfl rfl rfl (Vu _) oq oq ?_
   repeat' first|refine Q1 ?_|fail
   refine Z2 (A:=[]) (N:=[_]) (B:=(bv,.cells (ZI vs0 restv) 80 (0,0))::(Nq++[])) rfl trivial rfl rfl rfl (fun w hk hs=>by
    have c:=Qdk w bu i iH kv (G-1) capv us vs _ gK (Yo hs 0 rfl) oq (hOv1.rd.at hk hs Q6) (fun _=>by simpa using (Qky hs 1 0 rfl rfl dq)) oq hu0 hDv.lt hDlt oq (by rw[hhead,hD];exact Nat.mul_div_le _ _) oq
    rw[hlu]at c
    exact c) fun w v w' _ _ _ hR=>?_
   obtain⟨zs,hzl,hz,hvz,hbl⟩:=hR
   refine⟨[(bu,.cells (ZI (put i (kv+1) zs us) gK) 80 (0,0))],rfl,fun p hp=>by cases List.mem_singleton.1 hp;exact hbl,?_⟩
   repeat' first|apply jO|apply jN|refine Q1 ?_|refine Zb (h:=?_)|apply jT
   refine XL (A:=[_,_]) hOq rfl rfl trivial rfl rfl oq (fun Nq' iI=>?_)
   repeat' first|apply jO|apply jN|apply jT|refine Q1 ?_|refine Q0 ?_|refine Xp (h:=?_)|apply jW
   have hput:=Q6w (b:=W32) (zs:=zs) (show i+(kv+1)≤us.length by omega) htail
   rw[hhead]at hvz
   refine Qa (i,put i (kv+1) zs us,Nq',_) ⟨by dsimp only;omega,by dsimp only;rw[WA oq hzl];exact hlu,Qce dq hu0 hz.lt,iI,YR hqs hDlt,?_,?_⟩ aY aF Qy
   ·dsimp only
    rw[hput]
    rw[hD]at hvz
    have hm:=Nat.mod_lt (val W32 (us.drop i)) hV0
    have hdm:=Nat.div_add_mod (val W32 (us.drop i)) (val W32 vs)
    omega
   ·dsimp only
    have e1:=Ya W32 (put i (kv+1) zs us) i (by rw[WA oq hzl];omega)
    rw[Q3k oq,hput]at e1
    rw[e1,Za (l:=qs.set i _) (by simp;omega),QO oq,Wn]
    have e2:=Ya W32 us i oq
    rw[e2,Va]at hval
    exact Qd4 hvz.symm hval
  ·rw[decide_eq_false hl]
   have hD:G=val W32 (us.drop i) / val W32 vs:=by
    have h1:G≤val W32 (us.drop i) / val W32 vs:=(Nat.le_div_iff_mul_le hV0).2 (by rw[Vc];omega)
    exact Nat.le_antisymm h1 hqG
   have hDlt:G<4294967296:=by omega
   repeat' first|apply jS|apply jO|apply jN|apply jT|refine Q1 ?_|apply jK|refine Q4 rfl ?_
   refine Q60 (o':=i) rfl rfl rfl rfl (Vu _) oq oq ?_
   repeat' first|refine Q1 ?_|fail
   refine Z2 (A:=[]) (N:=[_]) (B:=(bv,.cells (ZI vs0 restv) 80 (0,0))::(Nq++[])) rfl trivial rfl rfl rfl (fun w hk hs=>by
    have c:=Qdk w bu i iH kv (G) capv us vs _ gK (Yo hs 0 rfl) oq (hOv1.rd.at hk hs Q6) (fun _=>by simpa using (Qky hs 1 0 rfl rfl dq)) oq hu0 hDv.lt hDlt oq (by rw[hhead,hD];exact Nat.mul_div_le _ _) oq
    rw[hlu]at c
    exact c) fun w v w' _ _ _ hR=>?_
   obtain⟨zs,hzl,hz,hvz,hbl⟩:=hR
   refine⟨[(bu,.cells (ZI (put i (kv+1) zs us) gK) 80 (0,0))],rfl,fun p hp=>by cases List.mem_singleton.1 hp;exact hbl,?_⟩
   repeat' first|apply jO|apply jN|refine Q1 ?_|refine Zb (h:=?_)|apply jT
   refine XL (A:=[_,_]) hOq rfl rfl trivial rfl rfl oq (fun Nq' iI=>?_)
   repeat' first|apply jO|apply jN|apply jT|refine Q1 ?_|refine Q0 ?_|refine Xp (h:=?_)|apply jW
   have hput:=Q6w (b:=W32) (zs:=zs) (show i+(kv+1)≤us.length by omega) htail
   rw[hhead]at hvz
   refine Qa (i,put i (kv+1) zs us,Nq',_) ⟨by dsimp only;omega,by dsimp only;rw[WA oq hzl];exact hlu,Qce dq hu0 hz.lt,iI,YR hqs hDlt,?_,?_⟩ aY aF Qy
   ·dsimp only
    rw[hput]
    rw[hD]at hvz
    have hm:=Nat.mod_lt (val W32 (us.drop i)) hV0
    have hdm:=Nat.div_add_mod (val W32 (us.drop i)) (val W32 vs)
    omega
   ·dsimp only
    have e1:=Ya W32 (put i (kv+1) zs us) i (by rw[WA oq hzl];omega)
    rw[Q3k oq,hput]at e1
    rw[e1,Za (l:=qs.set i _) (by simp;omega),QO oq,Wn]
    have e2:=Ya W32 us i oq
    rw[e2,Va]at hval
    exact Qd4 hvz.symm hval


section
variable {c:Cx} {Q:Exit→Act→World→Prop} {m:Mode} {F:ak} {H Hs:aj} {r:List dA} {g:Option (Option Tmp × Bool)} {ns:Bool} {d:Tmp} {ty t t':TypeId} {x y:Operand}

theorem Qae {vs cs:Array Value} (h:vs.size=cs.size):Zy cs 0 vs.toList=vs:=by
 have key:∀ (l:List Value) (cs:Array Value) (o:Nat),o+l.length=cs.size→(Zy cs o l).toList=cs.toList.take o++l:=by
  intro l
  induction l with
  | nil =>
   intro cs o h
   simp only[List.length_nil,Vt]at h
   rw[Zy,Vj,Vf (by simp[h])]
  | cons v l ih =>
   intro cs o h
   simp only[List.length_cons]at h
   rw[Zy,ih _ _ (by rw[Array.size_setIfInBounds];omega),Array.toList_setIfInBounds]
   have hlt:o<(cs.toList.set o v).length:=by simp;omega
   rw[List.take_succ_eq_append_getElem hlt,List.take_set_of_le (V8 _)]
   simp
 have:=key vs.toList cs 0 (by simp;omega)
 apply Array.ext'
 simpa using this

theorem ZW {b n:Nat} (k:Nat) {cs vs:Array Value} {T:TypeId} [TN c.P t n] (hg:Qh F g=some true:=by exact rfl) (hx:ev F x=some (.pointer (some ⟨b,0,none⟩)):=by exact rfl) (hy:ev F y=some (.agg vs):=by exact rfl)
  (hb:H[k]?=some (b,.cells cs T (0,0)):=by(first|exact at0|exact at1|exact at2|exact at3|exact at4|exact at5|exact at6|exact at7|exact at8|exact at9)) (hn:vs.size=n:=by exact rfl) (hn':cs.size=n:=by exact rfl) (hv:(vs.toList.all (·.oneCell'))=true:=by exact rfl) (iD:HSub Hs (H.set k (b,.cells vs T (0,0))):=by exact QK) (h:JO c Q (.draw Hs true) r F (H.set k (b,.cells vs T (0,0)))) :
  JO c Q (.draw Hs true) (⟨none,.store t x y,ty,g,.seq,ns⟩::r) F H:=by
 refine⟨⟨rfl,.inr ⟨hg,fun a w st _=>?_⟩⟩⟩
 have hm':(b,Obj.cells cs T (0,0))∈H:=List.mem_of_getElem? hb
 obtain⟨w',h1,h2,h3,h4,h5,h6,h7⟩:=Q0k (P:=c.P) (t:=t) (n:=n) TN.size (o:=0) (v:=.agg vs) (w:=w) (by show vs.size=n;exact hn) (by show ∀ u∈vs.toList,_;exact List.all_eq_true.1 hv) (st.hs.blk _ hm') oq
 have h2:w'.heap[b]?=some (.cells (Zy cs 0 vs.toList) T (0,0)):=h2
 rw[Qae oq]at h2
 obtain⟨st',hstep⟩:=Qg5 st hb h2 h3 h4 h5 h6 h7
 unfold Oper.wp dA.oper
 simp only[execOp,st.fr.ev hx,st.fr.ev hy,Sem.run_bind,h1,Result.andThen_ok,Sem.run_pure]
 exact⟨hstep,F,_,.draw Hs true,st',fun j hj=>.inl (Q7q hb j hj),⟨rfl,fun _=>⟨rfl,iD.bU st'.hs⟩,fun _=>rfl,.inl rfl⟩,h.h⟩

theorem Qm8 {b n:Nat} (k:Nat) {cs:Array Value} {T:TypeId} {fz:Nat × Nat} [TN c.P t n] (hm:m.dZ ns r:=by(first|exact trivial|exact⟨rfl,rfl⟩)) (hd:Qx c.n (some d)=true:=by exact rfl) (hg:Qh F g=some true:=by exact rfl) (hx:ev F x=some (.pointer (some ⟨b,0,none⟩)):=by exact rfl)
  (hb:H[k]?=some (b,.cells cs T fz):=by(first|exact at0|exact at1|exact at2|exact at3|exact at4|exact at5|exact at6|exact at7|exact at8|exact at9)) (hn:cs.size=n:=by exact rfl) (h:JO c Q m r ((d,(.agg cs))::F) H):JO c Q m (⟨some d,.load t x,ty,g,.seq,ns⟩::r) F H :=
 Qm6 (v:=.agg cs) hm hd hg (fun a w fr hs=>by
  have:=Wy (P:=c.P) (t:=t) (n:=n) (w:=w) (b:=b) (o:=0) (vs:=cs) hn (fun j hj=>by
   have hj':j<cs.size:=by omega
   rw[Vu,Array.getElem?_eq_getElem hj']
   exact Q3f hs hb (Array.getElem?_eq_getElem hj'))
  simp only[execOp,fr.ev hx,Sem.run_bind,this,Result.andThen_ok,Sem.run_pure]) h
end

theorem Qls {c:Cx} {Q:Exit→Act→World→Prop} {F:ak} {H:aj} {id:Nat} {ops:Array Oper} (Hs:aj) (iD:HSub Hs H) (i j:Nat) (kd:Nat→Op→Kind) (t1 t2:Nat) (o1 o2:List Nat) (hij:i≠j) (hm:c.P.follows .mixedOrders=true)
  (hB1:XT c.P kd (edge ops i j) o1 t1=true) (hB2:XT c.P kd (edge ops j i) o2 t2=true)
  (h1:JO c Q (.draw Hs true) (Qg kd ops t1 o1) F H) (h2:JO c Q (.draw Hs true) (Qg kd ops t2 o2) F H):JC c Q (.raw (.region id ops true)) F H:=⟨fun a w st=>by
 show (Code.region id ops true).wp c.P Q a w
 refine wp_mono ?_ (fun e a w h=>Only.up e a w h)
 have a1:=WF (Q:=Q) hB1 st (iD.bU st.hs) (by rw[Xh];exact h1.h)
 have a2:=WF (Q:=Q) hB2 st (iD.bU st.hs) (by rw[Xh];exact h2.h)
 rw[Q9l]at a1 a2
 refine wp_region_draw fun t=>?_
 simp only[Region.schedule,hm,Bool.true_or,if_true]
 rcases Q94 hij _ _ _ (Qar (ops:=ops) ops.size t (Array.replicate ops.size false))with h|h
 ·obtain⟨t',ht⟩:=Q7r _ _ _ h
  have:=wpAny_sound ops.size t' _ a _ a1
  rw[ht]at this
  exact X9 _ _ _ this
 ·obtain⟨t',ht⟩:=Q7r _ _ _ h
  have:=wpAny_sound ops.size t' _ a _ a2
  rw[ht]at this
  exact X9 _ _ _ this⟩


def dR (v:Value) (a:Int) (k:Nat):Prop:=∃ p l,v=wv p l∧l.length≤k∧a=bQ p (bW (dQ l))
theorem Qq4 {l:List UInt8}:∀ x∈dQ l,x<256:=fun x hx=>by
 obtain⟨a,_,rfl⟩:=List.mem_map.1 hx
 exact UInt8.toNat_lt a
theorem QX {l:List UInt8} {k:Nat} (h:l.length≤k):bW (dQ l)<256 ^ k:=by
 have h1:=Qq3 (Qq4 (l:=l))
 rw[Q8e]at h1
 exact V7 h1 (V4 dq h)
theorem dR.lt {v:Value} {a:Int} {k:Nat} (h:dR v a k):a.natAbs<256 ^ k:=by
 obtain⟨p,l,rfl,hl,rfl⟩:=h
 rw[YE]
 exact QX hl
theorem dR.mono {v:Value} {a:Int} {k k':Nat} (h:dR v a k) (hk:k≤k'):dR v a k':=by
 obtain⟨p,l,rfl,hl,rfl⟩:=h
 exact⟨p,l,rfl,by omega,rfl⟩
theorem Qi {a:Int} {k:Nat} (h:a.natAbs<256 ^ k):dR (Wv a) a k :=
 ⟨_,_,rfl,Qko h,by rw[Qa3,Qjt]⟩
theorem Yg {zs:List Nat} {l:List UInt8} {k:Nat} (hz:dG W32 zs) (hv:val W32 zs=bW (dQ l)) (hl:l.length≤k):zs.length≤k / 4+1:=by
 refine hz.bV dq ?_
 rw[hv]
 exact V7 (QX hl) (by rw[show W32=256 ^ 4 from rfl, ← Nat.pow_mul];exact V4 dq oq)

theorem Q8c (w:World) (v:Value) (a:Int) (k:Nat) (hv:dR v a k) (hk:k≤30000000000000) :
  Calls Tryz.prog 134 #[v] w (aP fun r w'=>Kp [] w w'∧r=Wv (-a)):=by
 obtain⟨p,l,rfl,hl1,rfl⟩:=hv
 refine Q9 [⟨1,1,[0,2,3,4,1,5,6],[]⟩] [] au [] Tryz.func134 rfl mixed (by kernel_rfl) Tryz.ntmps134 Tryz.results134 rfl ⟨by simp,by simp⟩ au ?_
 simp only[toS,Qd,Qt,Qk,Ql,ay,Qg,QA,aC]
 repeat' first|apply jS|apply jO|apply jD|apply jN|refine Q3 ?_|refine Qb ?_|refine Q7 ?_|refine QV (h:=?_)|refine Qc fun _=>?_|refine QB fun _=>?_|apply jT
 refine Qf (A:=[_,_]) rfl trivial rfl rfl rfl (fun w hk hs=>Q3a w p l oq) fun w v w' _ _ _ hR=>?_
 obtain⟨N1,zs1,hN1,bT,hz1,aV⟩:=hR
 refine⟨N1,hN1,?_⟩
 have hzl1:=Yg hz1 aV hl1
 skip
 refine Q5 trivial rfl rfl rfl (fun w hk hs=>Y4 w _ _ zs1 (!p) (bT.rd.at hk hs Q6) hz1.lt oq) fun w v w' _ _ _ hR=>?_
 subst hR
 repeat' first|apply jN|apply jT|refine Q2 ?_|refine Q2 ?_|apply jR
 exact QQ 0 rfl rfl rfl (fun a w' st=>⟨st.kp,by show Wv (bQ (!p) (val W32 zs1))=_;rw[aV,Qg0]⟩)

theorem XU (w:World) (v:Value) (a:Int) (k:Nat) (hv:dR v a k) (hk:k≤30000000000000) :
  Calls Tryz.prog 81 #[v] w (aP fun r w'=>Kp [] w w'∧r=iv a.sign):=by
 obtain⟨p,l,rfl,hl1,rfl⟩:=hv
 refine Q9 [] [] au [] Tryz.func81 rfl mixed (by kernel_rfl) Tryz.ntmps81 Tryz.results81 rfl ⟨by simp,by simp⟩ au ?_
 simp only[toS,Qd,Qt,Qk,Ql,ay,Qg,QA,aC]
 repeat' first|apply jS|apply jO|apply jN|apply jT|refine Q0 ?_|refine Q7 ?_|refine QB fun _=>?_|apply jB
 refine Qf (A:=[_]) rfl trivial rfl rfl rfl (fun w hk hs=>Q3a w p l oq) fun w v w' _ _ _ hR=>?_
 obtain⟨N1,zs1,hN1,bT,hz1,aV⟩:=hR
 refine⟨N1,hN1,?_⟩
 have hzl1:=Yg hz1 aV hl1
 have he:=hz1.eq_nil dq
 rw[aV]at he
 by_cases h0:zs1.length=0
 ·have h1:=he.1 (List.eq_nil_of_length_eq_zero h0)
  rw[h1,Wc]
  repeat' first|apply jS|apply jO|apply jN|apply jT|refine Q0 ?_|refine Z4 (h:=?_)|(refine Z9 (h1:=?_) (h2:=?_)<;>intro hc<;>try omega)|apply jV|apply jR|refine Q8 rfl ?_|apply QT
  exact Qn rfl (fun a w' st=>⟨st.kp,rfl⟩)
 ·have h1:bW (dQ l)≠0:=fun h=>h0 (by rw[he.2 h];rfl)
  cases p with
  | false =>
   have h2:(bQ false (bW (dQ l))).sign=1:=Int.sign_eq_one_of_pos (by simp[bQ];omega)
   rw[h2]
   repeat' first|apply jS|apply jO|apply jN|apply jT|refine Q3 ?_|refine Q0 ?_|refine Qb ?_|refine Z4 (h:=?_)|(refine Z9 (h1:=?_) (h2:=?_)<;>intro hc<;>try omega)|apply jK|apply jR|refine Q4 rfl ?_|apply jW
   exact Qn rfl (fun a w' st=>⟨st.kp,rfl⟩)
  | true =>
   have h2:(bQ true (bW (dQ l))).sign = -1:=Int.sign_eq_neg_one_of_neg (by simp[bQ];omega)
   rw[h2]
   repeat' first|apply jS|apply jO|apply jN|apply jT|refine Q3 ?_|refine Q0 ?_|refine Qb ?_|refine Z4 (h:=?_)|(refine Z9 (h1:=?_) (h2:=?_)<;>intro hc<;>try omega)|apply jV|apply jR|refine Q8 rfl ?_|refine Q4 rfl ?_|apply QT
   exact Qn rfl (fun a w' st=>⟨st.kp,rfl⟩)

theorem Qj4 (w:World) (v u:Value) (a b:Int) (k:Nat) (hv:dR v a k) (hu:dR u b k) (hk:k≤30000000000000) :
  Calls Tryz.prog 83 #[v,u] w (aP fun r w'=>Kp [] w w'∧r=Wv (a+b)):=by
 obtain⟨p,l,rfl,hl1,rfl⟩:=hv
 obtain⟨q,l',rfl,hl2,rfl⟩:=hu
 refine Q9 [⟨1,1,[0,2,1,3,4,5],[]⟩,⟨3,2,[0,1,3,4,2,5,6],[]⟩,⟨5,2,[0,1,3,4,2,5,6],[]⟩,⟨6,2,[0,1,3,4,2,5,6],[]⟩] [] au [] Tryz.func83 rfl mixed (by kernel_rfl) Tryz.ntmps83 Tryz.results83 rfl ⟨by simp,by simp⟩ au ?_
 simp only[toS,Qd,Qt,Qk,Ql,ay,Qg,QA,aC]
 repeat' first|apply jS|apply jO|apply jD|apply jN|refine Q7 ?_|refine Qc fun _=>?_|refine QB fun _=>?_|apply jT
 refine Qf (A:=[_,_,_]) rfl trivial rfl rfl rfl (fun w hk hs=>Q3a w p l oq) fun w v w' _ _ _ hR=>?_
 obtain⟨N1,zs1,hN1,bT,hz1,aV⟩:=hR
 refine⟨N1,hN1,?_⟩
 have hzl1:=Yg hz1 aV hl1
 skip
 refine Qf (A:=[_,_,_]) rfl trivial rfl rfl rfl (fun w hk hs=>Q3a w q l' oq) fun w v w' _ _ _ hR=>?_
 obtain⟨N2,zs2,fA,hO2,hz2,bJ⟩:=hR
 refine⟨N2,fA,?_⟩
 have hzl2:=Yg hz2 bJ hl2
 by_cases hpq:p=q
 ·subst hpq
  repeat' first|apply jS|apply jO|apply jD|apply jN|apply jT|refine Q1 ?_|refine Q3 ?_|refine Q0 ?_|refine Qb ?_|refine Qma (h:=?_)|refine Q8 rfl ?_|apply jB
  refine Qf (A:=[_,_,_]) rfl trivial rfl rfl rfl (fun w hk hs=>Qpy w _ _ _ _ _ _ (bT.rd.at hk hs Q6) (hO2.rd.at hk hs Q6) hz1.lt hz2.lt oq oq) fun w v w' _ _ _ hR=>?_
  obtain⟨N3,dK,hN3,hO3,hz3,hval3⟩:=hR
  refine⟨N3,hN3,?_⟩
  rw[aV,bJ]at hval3
  have hzl3:dK.length≤k / 4+1+1:=by
   refine hz3.bV dq ?_
   rw[hval3,Va]
   have h1:=V7 (QX hl1) (Qaq k)
   have h2:=V7 (QX hl2) (Qaq k)
   show _<W32 ^ (k / 4+1)*4294967296
   omega
  skip
  refine Q5 trivial rfl rfl rfl (fun w hk hs=>Y4 w _ _ dK p (hO3.rd.at hk hs Q6) hz3.lt oq) fun w v w' _ _ _ hR=>?_
  subst hR
  repeat' first|apply jN|apply jT|refine Q2 ?_|refine Q2 ?_|apply jV|apply jR|apply QT
  exact QQ 0 rfl rfl rfl (fun a w' st=>⟨st.kp,by show Wv (bQ p (val W32 dK))=_;rw[hval3,Qg3]⟩)
 have hpq':(p == q)=false:=by simpa using hpq
 repeat' first|apply jS|apply jO|apply jN|apply jT|refine Q3 ?_|refine Q0 ?_|refine Qb ?_|refine Qoa (h:=?_)|apply jB
 rw[hpq']
 repeat' first|apply jS|apply jO|refine Q1 ?_|refine Q4 rfl ?_
 refine Q5 trivial rfl rfl rfl (fun w hk hs=>Qpx w _ _ _ _ _ _ (bT.rd.at hk hs Q6) (hO2.rd.at hk hs Q6) hz1 hz2 oq oq) fun w v w' _ _ _ hR=>?_
 subst hR
 by_cases hlt:val W32 zs1<val W32 zs2
 ·have hneg:=YM.2 hlt
  have hlen:zs1.length≤zs2.length:=by
   refine Vg fun h=>?_
   have:=YX (b:=W32) dq hz2 hz1 oq
   omega
  repeat' first|apply jS|apply jD|apply jN|apply jT|refine Q1 ?_|refine Q3 ?_|refine Q0 ?_|refine Qb ?_|(refine Qs (h1:=?_) (h2:=?_)<;>intro hc<;>try omega)|refine Q8 rfl ?_
  refine Qf (A:=[_,_,_]) rfl trivial rfl rfl rfl (fun w hk hs=>Qil w _ _ _ _ _ _ (hO2.rd.at hk hs Q6) (bT.rd.at hk hs Q6) hz2.lt hz1.lt oq hlen (Nat.le_of_lt hlt)) fun w v w' _ _ _ hR=>?_
  obtain⟨N3,dK,hN3,hO3,hz3,hval3⟩:=hR
  refine⟨N3,hN3,?_⟩
  have hzl3:dK.length≤k / 4+1:=hz3.bV dq (V5 (show val W32 dK≤val W32 zs2 by omega) (by rw[bJ];exact V7 (QX hl2) (Qaq k)))
  rw[aV,bJ]at hval3
  rw[aV,bJ]at hlt
  skip
  refine Q5 trivial rfl rfl rfl (fun w hk hs=>Y4 w _ _ dK q (hO3.rd.at hk hs Q6) hz3.lt oq) fun w v w' _ _ _ hR=>?_
  subst hR
  repeat' first|apply jN|apply jT|refine Q2 ?_|refine Q2 ?_|apply jV|apply jR|apply QT
  exact QQ 0 rfl rfl rfl (fun a w' st=>⟨st.kp,by show Wv (bQ q (val W32 dK))=_;rw[← Qbz hpq hlt, ← hval3,Nat.add_sub_cancel]⟩)
 ·have hneg:¬fF (val W32 zs1) (val W32 zs2)<0:=fun h=>hlt (YM.1 h)
  have hlen:zs2.length≤zs1.length:=by
   refine Vg fun h=>hlt ?_
   exact YX (b:=W32) dq hz1 hz2 oq
  repeat' first|apply jS|apply jD|apply jN|apply jT|refine Q1 ?_|refine Q3 ?_|refine Q0 ?_|refine Qb ?_|(refine Qs (h1:=?_) (h2:=?_)<;>intro hc<;>try omega)|apply jK|refine Q4 rfl ?_|apply jW
  refine Qf (A:=[_,_,_]) rfl trivial rfl rfl rfl (fun w hk hs=>Qil w _ _ _ _ _ _ (bT.rd.at hk hs Q6) (hO2.rd.at hk hs Q6) hz1.lt hz2.lt oq hlen oq) fun w v w' _ _ _ hR=>?_
  obtain⟨N3,dK,hN3,hO3,hz3,hval3⟩:=hR
  refine⟨N3,hN3,?_⟩
  have hzl3:dK.length≤k / 4+1:=hz3.bV dq (V5 (show val W32 dK≤val W32 zs1 by omega) (by rw[aV];exact V7 (QX hl1) (Qaq k)))
  rw[aV,bJ]at hval3
  rw[aV,bJ]at hlt
  skip
  refine Q5 trivial rfl rfl rfl (fun w hk hs=>Y4 w _ _ dK p (hO3.rd.at hk hs Q6) hz3.lt oq) fun w v w' _ _ _ hR=>?_
  subst hR
  repeat' first|apply jN|apply jT|refine Q2 ?_|refine Q2 ?_|apply jR
  exact QQ 0 rfl rfl rfl (fun a w' st=>⟨st.kp,by show Wv (bQ p (val W32 dK))=_;rw[← Qby hpq hlt, ← hval3,Nat.add_sub_cancel]⟩)

theorem Qe2 {n k:Nat} (h:n<256 ^ k) {m:Nat} (hm:m<256 ^ k):n+m<256 ^ (k+1):=by
 rw[Va]
 omega
theorem dR.add {a b:Int} {k:Nat} (h:a.natAbs<256 ^ k) (h':b.natAbs<256 ^ k):dR (Wv (a+b)) (a+b) (k+1):=Qi (V5 (Int.natAbs_add_le a b) (Qe2 h h'))
theorem Qmc {a b:Int} {k k':Nat} (h:a.natAbs<256 ^ k) (h':b.natAbs<256 ^ k'):(a*b).natAbs<256 ^ (k+k'):=by
 rw[Vq,Nat.pow_add]
 exact Nat.mul_lt_mul_of_lt_of_le h (Nat.le_of_lt h') (Nat.pow_pos dq)

theorem Qlh (w:World) (v u:Value) (a b:Int) (k:Nat) (hv:dR v a k) (hu:dR u b k) (hk:k≤30000000000000) :
  Calls Tryz.prog 115 #[v,u] w (aP fun r w'=>Kp [] w w'∧r=Wv (a-b)):=by
 have hZ:dR (Wv (-b)) (-b) k:=Qi (by rw[Int.natAbs_neg];exact hu.lt)
 obtain⟨p,l,rfl,hl1,rfl⟩:=hv
 obtain⟨q,l',rfl,hl2,rfl⟩:=hu
 refine Q9 [⟨1,1,[],[]⟩] [] au [] Tryz.func115 rfl mixed (by kernel_rfl) Tryz.ntmps115 Tryz.results115 rfl ⟨by simp,by simp⟩ au ?_
 simp only[toS,Qd,Qt,Qk,Ql,ay,Qg,QA,aC]
 repeat' first|apply jS|apply jO|apply jD|apply jN|refine Q7 ?_|refine Qc fun _=>?_|refine QB fun _=>?_|apply jT
 refine Q5 trivial rfl rfl rfl (fun w hk' hs=>Q8c w _ _ k ⟨q,l',rfl,hl2,rfl⟩ hk) fun w v w' _ _ _ hR=>?_
 subst hR
 skip
 refine Q5 trivial rfl rfl rfl (fun w hk' hs=>Qj4 w _ _ _ _ k ⟨p,l,rfl,hl1,rfl⟩ hZ hk) fun w v w' _ _ _ hR=>?_
 subst hR
 repeat' first|apply jN|apply jT|refine Q2 ?_|refine Q2 ?_|apply jR
 exact QQ 0 rfl rfl rfl (fun a w' st=>⟨st.kp,by rw[Int.sub_eq_add_neg];rfl⟩)

theorem Qj3 (w:World) (v u:Value) (a b:Int) (k:Nat) (hv:dR v a k) (hu:dR u b k) (hk:k≤29999999999999) :
  Calls Tryz.prog 61 #[v,u] w (aP fun r w'=>Kp [] w w'∧r=iv (a-b).sign):=by
 have hZ:dR (Wv (a-b)) (a-b) (k+1):=by
  rw[Int.sub_eq_add_neg]
  exact dR.add hv.lt (by rw[Int.natAbs_neg];exact hu.lt)
 obtain⟨p,l,rfl,hl1,rfl⟩:=hv
 obtain⟨q,l',rfl,hl2,rfl⟩:=hu
 refine Q9 [] [] au [] Tryz.func61 rfl mixed (by kernel_rfl) Tryz.ntmps61 Tryz.results61 rfl ⟨by simp,by simp⟩ au ?_
 simp only[toS,Qd,Qt,Qk,Ql,ay,Qg,QA,aC]
 repeat' first|apply jS|apply jO|apply jN|refine Q0 ?_|refine Q7 ?_|refine QB fun _=>?_|apply jT
 refine Q5 trivial rfl rfl rfl (fun w hk' hs=>Qlh w _ _ _ _ k ⟨p,l,rfl,hl1,rfl⟩ ⟨q,l',rfl,hl2,rfl⟩ oq) fun w v w' _ _ _ hR=>?_
 subst hR
 skip
 refine Q5 trivial rfl rfl rfl (fun w hk' hs=>XU w _ _ (k+1) hZ oq) fun w v w' _ _ _ hR=>?_
 subst hR
 repeat' first|apply jN|apply jT|refine Q0 ?_|apply jR
 exact Qn rfl (fun a w' st=>⟨st.kp,rfl⟩)

theorem Qa0 (w:World) (v u:Value) (a b:Int) (k:Nat) (hv:dR v a k) (hu:dR u b k) (hk:k≤30000000000000) :
  Calls Tryz.prog 84 #[v,u] w (aP fun r w'=>Kp [] w w'∧r=Wv (a*b)):=by
 obtain⟨p,l,rfl,hl1,rfl⟩:=hv
 obtain⟨q,l',rfl,hl2,rfl⟩:=hu
 refine Q9 [⟨1,1,[0,2,5,6,7,8,9,1,3,4,10,11],[]⟩] [] au [] Tryz.func84 rfl mixed (by kernel_rfl) Tryz.ntmps84 Tryz.results84 rfl ⟨by simp,by simp⟩ au ?_
 simp only[toS,Qd,Qt,Qk,Ql,ay,Qg,QA,aC]
 repeat' first|apply jS|apply jO|apply jD|apply jN|refine Q3 ?_|refine Qb ?_|refine Q7 ?_|refine Q4g (h:=?_)|refine Qc fun _=>?_|refine QB fun _=>?_|apply jT
 refine Qf (A:=[_,_,_]) rfl trivial rfl rfl rfl (fun w hk hs=>Q3a w p l oq) fun w v w' _ _ _ hR=>?_
 obtain⟨N1,zs1,hN1,bT,hz1,aV⟩:=hR
 refine⟨N1,hN1,?_⟩
 have hzl1:=Yg hz1 aV hl1
 skip
 refine Qf (A:=[_,_,_]) rfl trivial rfl rfl rfl (fun w hk hs=>Q3a w q l' oq) fun w v w' _ _ _ hR=>?_
 obtain⟨N2,zs2,fA,hO2,hz2,bJ⟩:=hR
 refine⟨N2,fA,?_⟩
 have hzl2:=Yg hz2 bJ hl2
 skip
 refine Qf (A:=[_,_,_]) rfl trivial rfl rfl rfl (fun w hk hs=>Qiu w _ _ _ _ _ _ (bT.rd.at hk hs Q6) (hO2.rd.at hk hs Q6) hz1.lt hz2.lt oq oq) fun w v w' _ _ _ hR=>?_
 obtain⟨N3,dK,hN3,hO3,hz3,hval3⟩:=hR
 refine⟨N3,hN3,?_⟩
 rw[aV,bJ]at hval3
 have hzl3:dK.length≤(k / 4+1)+(k / 4+1):=by
  refine hz3.bV dq ?_
  rw[hval3,Nat.pow_add]
  have h1:=V7 (QX hl1) (Qaq k)
  have h2:=V7 (QX hl2) (Qaq k)
  exact Nat.mul_lt_mul_of_lt_of_le h1 (Nat.le_of_lt h2) (Nat.pow_pos dq)
 skip
 refine Q5 trivial rfl rfl rfl (fun w hk hs=>Y4 w _ _ dK (p != q) (hO3.rd.at hk hs Q6) hz3.lt oq) fun w v w' _ _ _ hR=>?_
 subst hR
 repeat' first|apply jN|apply jT|refine Q2 ?_|refine Q2 ?_|apply jR
 exact QQ 0 rfl rfl rfl (fun a w' st=>⟨st.kp,by show Wv (bQ (p != q) (val W32 dK))=_;rw[hval3,Qg2]⟩)


section
variable {c:Cx} {Q:Exit→Act→World→Prop} {m:Mode} {F:ak} {H:aj} {r:List dA} {g:Option (Option Tmp × Bool)} {ns:Bool} {d:Tmp} {ty t t':TypeId} {x y:Operand} {i:Nat}
theorem Qm7 (hd:Qx c.n (some d)=true) (hg:Qh F g=some true) (hx:ev F x=some (uv i)) (hb:i≤18446744073709551616)
  (h:JO c Q m r ((d,uv ((18446744073709551616-i) % 18446744073709551616))::F) H):JO c Q m (⟨some d,.unOp .neg t x,ty,g,.bC,ns⟩::r) F H :=
 Yb hd hg (fun a w fr=>by
  have h1:IntKind.u64.wrap (-(i:Int))=(((18446744073709551616-i) % 18446744073709551616:Nat):Int):=by rw[IntKind.wrap_u64];omega
  simp only[execOp,fr.ev hx]
  simp[Op.unary,Op.intArith,h1,uv]) h
theorem Qca {n:Int} (j:Nat) [TI c.P t .i64] [TI c.P t' .u64] (hd:Qx c.n (some d)=true) (hg:Qh F g=some true) (hx:ev F x=some (.int .i64 n)) (hj:IntKind.u64.wrap n=(j:Int))
  (h:JO c Q m r ((d,uv j)::F) H):JO c Q m (⟨some d,.convert t t' x,ty,g,.bC,ns⟩::r) F H:=Q28 (k':=.u64) (j:Int) hd hg hx hj h
end

theorem Qf2 (m:Nat):val W32 [m % 4294967296,m / 4294967296]=m:=by
 show m % 4294967296+4294967296*(m / 4294967296+4294967296*0)=m
 omega

theorem WE (w:World) (n:Int) (h1 : -9223372036854775808≤n) (h2:n<9223372036854775808) :
  Calls Tryz.prog 62 #[iv n] w (aP fun r w'=>Kp [] w w'∧r=Wv n):=by
 have hm:n.natAbs≤9223372036854775808:=by omega
 have hm2:n.natAbs<18446744073709551616:=by omega
 have hlt:∀ x∈[n.natAbs % 4294967296,n.natAbs / 4294967296],x<W32:=fun x hx=>by
  simp only[List.mem_cons,List.mem_nil_iff,or_false]at hx
  show x<4294967296
  omega
 by_cases hn:n<0
 ·refine Q9 [] [] au [] Tryz.func62 rfl mixed (by kernel_rfl) Tryz.ntmps62 Tryz.results62 rfl ⟨by simp,by simp⟩ au ?_
  simp only[toS,Qd,Qt,Qk,Ql,ay,Qg,QA,aC]
  repeat' first|apply jS|apply jO|apply jN|refine Q1 ?_|refine Qc fun _=>?_|apply jT
  refine Qca (18446744073709551616-n.natAbs) rfl rfl rfl (by rw[IntKind.wrap_u64];omega) ?_
  repeat' first|apply jS|apply jO|apply jN|apply jT|refine Q1 ?_|refine Q0 ?_|(refine Qs (h1:=?_) (h2:=?_)<;>intro hc<;>try omega)|refine Q8 rfl ?_
  refine Qm7 rfl rfl rfl oq ?_
  rw[show (18446744073709551616-(18446744073709551616-n.natAbs)) % 18446744073709551616=n.natAbs by omega]
  repeat' first|apply jS|apply jO|apply jN|refine Q1 ?_|refine Q0 ?_|refine Q7d (h:=?_)|refine Xi (h:=?_)|(refine Qs (h1:=?_) (h2:=?_)<;>intro hc<;>try omega)|refine QG (h:=fun _=>?_)|apply jT
  rename_i b3
  have hO:aX [(b3,.cells ⟨[uv (n.natAbs % 4294967296),uv (n.natAbs / 4294967296)]⟩ 80)] (.slice (some ⟨b3,0,none⟩) 2 2) 2 [n.natAbs % 4294967296,n.natAbs / 4294967296]:=Xy b3 2 _ _ rfl rfl oq
  refine Q5 trivial rfl rfl rfl (fun w hk hs=>Y4 w _ _ _ true (hO.rd.at hk hs Q6) hlt oq) fun w v w' _ _ _ hR=>?_
  subst hR
  repeat' first|apply jN|apply jT|refine Q2 ?_|refine Q2 ?_|apply jR
  exact QQ 1 rfl rfl rfl (fun a w' st=>⟨st.kp,by show Wv (bQ true (val W32 _))=_;rw[Qf2];congr 1;simp only[bQ,if_true,Bool.false_eq_true,if_false];omega⟩)
 ·refine Q9 [] [] au [] Tryz.func62 rfl mixed (by kernel_rfl) Tryz.ntmps62 Tryz.results62 rfl ⟨by simp,by simp⟩ au ?_
  simp only[toS,Qd,Qt,Qk,Ql,ay,Qg,QA,aC]
  repeat' first|apply jS|apply jO|apply jN|refine Q1 ?_|refine Qc fun _=>?_|apply jT
  refine Qca n.natAbs rfl rfl rfl (by rw[IntKind.wrap_u64];omega) ?_
  repeat' first|apply jS|apply jO|apply jN|apply jT|refine Q1 ?_|refine Q0 ?_|refine Q7d (h:=?_)|refine Xi (h:=?_)|(refine Qs (h1:=?_) (h2:=?_)<;>intro hc<;>try omega)|refine QG (h:=fun _=>?_)|apply jK|refine Q4 rfl ?_
  rename_i b3
  have hO:aX [(b3,.cells ⟨[uv (n.natAbs % 4294967296),uv (n.natAbs / 4294967296)]⟩ 80)] (.slice (some ⟨b3,0,none⟩) 2 2) 2 [n.natAbs % 4294967296,n.natAbs / 4294967296]:=Xy b3 2 _ _ rfl rfl oq
  refine Q5 trivial rfl rfl rfl (fun w hk hs=>Y4 w _ _ _ false (hO.rd.at hk hs Q6) hlt oq) fun w v w' _ _ _ hR=>?_
  subst hR
  repeat' first|apply jN|apply jT|refine Q2 ?_|refine Q2 ?_|apply jR
  exact QQ 1 rfl rfl rfl (fun a w' st=>⟨st.kp,by show Wv (bQ false (val W32 _))=_;rw[Qf2];congr 1;simp only[bQ,if_true,Bool.false_eq_true,if_false];omega⟩)

theorem Y7 {c:Cx} {t t' t'':Tmp} {v':Value} {ty ty' n n' b b':Nat} {cs cs':Array Value} {T T':TypeId} {fz fz':Nat × Nat} {R:Value→World→Prop} {F:ak} {H:aj} [TN c.P ty n] [TN c.P ty' n'] (k k':Nat) (h1:look F t=some (.pointer (some ⟨b,0,none⟩)))
  (h2:H[k]?=some (b,Obj.cells cs T fz)) (hn:cs.size=n) (h1':look F t'=some (.pointer (some ⟨b',0,none⟩))) (h2':H[k']?=some (b',Obj.cells cs' T' fz')) (hn':cs'.size=n') (h':look F t''=some v') (hR:∀ a w,St c F H a w→R (.tuple #[.agg cs,.agg cs',v']) w):JX c (Yp c.P #[.cell t ty,.cell t' ty',.tmp t''] (aP R)) .ret F H :=
 YI [.agg cs,.agg cs',v'] (ZU k h1 h2 hn (ZU k' h1' h2' hn' ⟨h',trivial⟩)) hR

theorem Q3b (w:World) (v u:Value) (a b:Int) (k:Nat) (hv:dR v a k) (hu:dR u b k) (hk:k≤30000000000000) :
  Calls Tryz.prog 73 #[v,u] w (aP fun r w'=>Kp [] w w'∧r=if b=0 then .tuple #[Wv 0,Wv 0,.bool false] else .tuple #[Wv (a / b),Wv (a % b),.bool true]):=by
 obtain⟨p,l,rfl,hl1,rfl⟩:=hv
 obtain⟨q,l',rfl,hl2,rfl⟩:=hu
 refine Q9 [⟨1,1,[0,2,1,3,4,5],[]⟩,⟨3,2,[],[]⟩] [] au [] Tryz.func73 rfl mixed (by kernel_rfl) Tryz.ntmps73 Tryz.results73 rfl ⟨by simp,by simp⟩ au ?_
 simp only[toS,Qd,Qt,Qk,Ql,ay,Qg,QA,aC]
 repeat' first|apply jS|apply jO|apply jD|apply jN|refine Q0 ?_|refine Q7 ?_|refine Qc fun _=>?_|refine QB fun _=>?_|apply jT
 refine Qf (A:=[_,_,_,_]) rfl aA rfl rfl rfl (fun w hk hs=>Q3a w p l oq) fun w v w' _ _ _ hR=>?_
 obtain⟨N1,zs1,hN1,bT,hz1,aV⟩:=hR
 refine⟨N1,hN1,?_⟩
 have hzl1:=Yg hz1 aV hl1
 skip
 refine Qf (A:=[_,_,_,_]) rfl aA rfl rfl rfl (fun w hk hs=>Q3a w q l' oq) fun w v w' _ _ _ hR=>?_
 obtain⟨N2,zs2,fA,hO2,hz2,bJ⟩:=hR
 refine⟨N2,fA,?_⟩
 have hzl2:=Yg hz2 bJ hl2
 have he:=hz2.eq_nil dq
 rw[bJ]at he
 by_cases h0:zs2.length=0
 ·have h1:=he.1 (List.eq_nil_of_length_eq_zero h0)
  rw[h1,if_pos (Wc q)]
  repeat' first|apply jS|apply jO|apply jD|apply jN|apply jT|refine Q1 ?_|refine Q0 ?_|refine Q7 ?_|refine Q2 ?_|refine ZW (k:=_) (h:=?_)|refine Z4 (h:=?_)|(refine Z9 (h1:=?_) (h2:=?_)<;>intro hc<;>try omega)|refine Q2 ?_|apply jV|apply jR|refine Q8 rfl ?_
  exact Y7 1 0 rfl rfl rfl rfl rfl rfl rfl (fun a w' st=>⟨st.kp,rfl⟩)
 have hy0:bW (dQ l')≠0:=fun h=>h0 (by rw[he.2 h];rfl)
 rw[if_neg (fun h=>hy0 ((Q4c _ _).1 h))]
 have hv1:val W32 zs1<256 ^ k:=by rw[aV];exact QX hl1
 have hv2:val W32 zs2<256 ^ k:=by rw[bJ];exact QX hl2
 have hpw:256 ^ k≤W32 ^ (k / 4+1):=Qaq k
 have hpk:0<256 ^ k:=Nat.pow_pos dq
 repeat' first|apply jS|apply jO|apply jN|apply jT|refine Q1 ?_|refine Q0 ?_|refine Z4 (h:=?_)|(refine Z9 (h1:=?_) (h2:=?_)<;>intro hc<;>try omega)|apply jK|refine Q4 rfl ?_
 refine Qf (A:=[_,_,_,_]) rfl trivial rfl rfl rfl (fun w hk hs=>Qtk w _ _ _ _ _ _ (bT.rd.at hk hs Q6) (hO2.rd.at hk hs Q6) hz1 hz2 oq oq oq) fun w v w' _ _ _ hR=>?_
 obtain⟨N3,N4,v3,v4,dK,gJ,rfl,hN34,hO3,hO4,hz3,hz4,hval3,hlt4⟩:=hR.ex
 refine⟨_,hN34,?_⟩
 rw[Vd N3 N4]
 have hzl4:gJ.length≤k / 4+1:=hz4.bV dq oq
 have hzl3:dK.length≤k / 4+1:=hz3.bV dq (by
  have h1:val W32 dK≤val W32 dK*val W32 zs2:=Nat.le_mul_of_pos_right _ oq
  omega)
 have hlaw:=Qgu p q (val W32 zs1) (val W32 zs2) (val W32 dK) (val W32 gJ) oq hval3 hlt4
 rw[aV,bJ]at hlaw
 have he4:=hz4.eq_nil dq
 have hlaw1:=hlaw.1
 have hlaw2:=hlaw.2
 clear hlaw
 rcases hO4 with hO4|⟨rfl,rfl,rfl⟩
 ·by_cases hp:p=true∧0<gJ.length
  ·obtain⟨rfl,hp4⟩:=hp
   have hr0:0<val W32 gJ:=Nat.pos_of_ne_zero fun h=>by rw[he4.2 h]at hp4;exact absurd hp4 au
   obtain⟨hq1,hq2⟩:=hlaw1 ⟨rfl,hr0⟩
   have hlen:gJ.length≤zs2.length:=by
    refine Vg fun h=>?_
    have:=YX (b:=W32) dq hz2 hz4 oq
    omega
   repeat' first|apply jS|apply jO|apply jN|apply jT|refine Q1 ?_|refine Q3 ?_|refine Q0 ?_|refine Qb ?_|refine QD (h:=?_)|refine Qv (h:=?_)|refine Z4 (h:=?_)|(refine Zg (h1:=?_) (h2:=?_)<;>intro hc<;>try omega)|refine QG (h:=fun _=>?_)|refine Q8 rfl ?_
   rename_i b9
   have hO9:aX [(b9,.cells ⟨[.int .u64 1]⟩ 80)] (.slice (some ⟨b9,0,none⟩) 1 1) 1 [1]:=Xy b9 1 [1] _ rfl rfl oq
   refine Qf (A:=[_,_,_,_,_]) rfl trivial rfl rfl rfl (fun w hk hs=>Qpy w _ _ _ _ _ _ (hO3.rd.at hk hs Q6) (hO9.rd.at hk hs Q6) hz3.lt (fun x hx=>by rw[List.mem_singleton]at hx;rw[hx];decide) oq oq) fun w v w' _ _ _ hR=>?_
   obtain⟨N5,zs5,jh,iL,hz5,dW⟩:=hR
   refine⟨N5,jh,?_⟩
   rw[Qa9]at dW
   have hzl5:zs5.length≤k / 4+1+1:=hz5.bV dq (by
    rw[dW,Va]
    have h1:val W32 dK≤val W32 dK*val W32 zs2:=Nat.le_mul_of_pos_right _ oq
    show _<W32 ^ (k / 4+1)*4294967296
    omega)
   repeat' first|refine Q1 ?_|fail
   refine Qf (A:=[_,_,_,_,_]) rfl trivial rfl rfl rfl (fun w hk hs=>Qil w _ _ _ _ _ _ (hO2.rd.at hk hs Q6) (hO4.rd.at hk hs Q6) hz2.lt hz4.lt oq hlen oq) fun w v w' _ _ _ hR=>?_
   obtain⟨N6,zs6,hN6,gY,hz6,hval6⟩:=hR
   refine⟨N6,hN6,?_⟩
   have hzl6:zs6.length≤k / 4+1:=hz6.bV dq oq
   repeat' first|apply jS|apply jO|apply jN|refine Q1 ?_|refine Q3 ?_|refine Q0 ?_|refine Qb ?_|refine Q4g (h:=?_)|apply jT
   refine Q5 trivial rfl rfl rfl (fun w hk hs=>Y4 w _ _ zs5 (true != q) (iL.rd.at hk hs Q6) hz5.lt oq) fun w v w' _ _ _ hR=>?_
   subst hR
   repeat' first|refine Q1 ?_|fail
   refine Q5 trivial rfl rfl rfl (fun w hk hs=>Y4 w _ _ zs6 false (gY.rd.at hk hs Q6) hz6.lt oq) fun w v w' _ _ _ hR=>?_
   subst hR
   repeat' first|apply jN|apply jT|refine Q0 ?_|refine Q2 ?_|refine Q2 ?_|apply jR
   refine Y7 2 1 rfl rfl rfl rfl rfl rfl rfl (fun a w' st=>⟨st.kp,?_⟩)
   show Value.tuple #[Wv (bQ (true != q) (val W32 zs5)),Wv (bQ false (val W32 zs6)),_]=_
   rw[dW,hq1, ← hq2, ← bJ]
   have:val W32 zs6=val W32 zs2-val W32 gJ:=by omega
   rw[this]
   rfl
  have hq:=hlaw2 (fun⟨h1,h2⟩=>hp ⟨h1,by
   refine Nat.pos_of_ne_zero fun h=>?_
   have:=List.eq_nil_of_length_eq_zero h
   rw[this]at h2
   exact absurd h2 (by simp[val])⟩)
  obtain⟨hq1,hq2⟩:=hq
  have hnp:p=true→gJ.length=0:=fun h=>by
   refine Vg fun h'=>hp ⟨h,by omega⟩
  cases p with
  | false =>
   repeat' first|apply jS|apply jO|apply jN|apply jT|refine Q1 ?_|refine Q3 ?_|refine Q0 ?_|refine Qb ?_|refine QC (h:=?_)|refine Qv (h:=?_)|refine Q4g (h:=?_)|refine Q4 rfl ?_|refine QU (h:=?_)|apply jK
   refine Q5 trivial rfl rfl rfl (fun w hk hs=>Y4 w _ _ dK (false != q) (hO3.rd.at hk hs Q6) hz3.lt oq) fun w v w' _ _ _ hR=>?_
   subst hR
   repeat' first|refine Q1 ?_|fail
   refine Q5 trivial rfl rfl rfl (fun w hk hs=>Y4 w _ _ gJ false (hO4.rd.at hk hs Q6) hz4.lt oq) fun w v w' _ _ _ hR=>?_
   subst hR
   repeat' first|apply jN|apply jT|refine Q0 ?_|refine Q2 ?_|refine Q2 ?_|apply jR
   refine Y7 1 0 rfl rfl rfl rfl rfl rfl rfl (fun a w' st=>⟨st.kp,?_⟩)
   show Value.tuple #[Wv (bQ (false != q) (val W32 dK)),Wv (bQ false (val W32 gJ)),_]=_
   rw[hq1, ← hq2]
   rfl
  | true =>
   have hz0:=hnp rfl
   repeat' first|apply jS|apply jO|apply jN|apply jT|refine Q1 ?_|refine Q3 ?_|refine Q0 ?_|refine Qb ?_|refine QD (h:=?_)|refine Qv (h:=?_)|refine Z4 (h:=?_)|(refine Zg (h1:=?_) (h2:=?_)<;>intro hc<;>try omega)|refine Q4g (h:=?_)|apply jK|refine Q4 rfl ?_
   refine Q5 trivial rfl rfl rfl (fun w hk hs=>Y4 w _ _ dK (true != q) (hO3.rd.at hk hs Q6) hz3.lt oq) fun w v w' _ _ _ hR=>?_
   subst hR
   repeat' first|refine Q1 ?_|fail
   refine Q5 trivial rfl rfl rfl (fun w hk hs=>Y4 w _ _ gJ false (hO4.rd.at hk hs Q6) hz4.lt oq) fun w v w' _ _ _ hR=>?_
   subst hR
   repeat' first|apply jN|apply jT|refine Q0 ?_|refine Q2 ?_|refine Q2 ?_|apply jR
   refine Y7 1 0 rfl rfl rfl rfl rfl rfl rfl (fun a w' st=>⟨st.kp,?_⟩)
   show Value.tuple #[Wv (bQ (true != q) (val W32 dK)),Wv (bQ false (val W32 gJ)),_]=_
   rw[hq1, ← hq2]
   rfl
 ·by_cases hp:p=true∧0<gJ.length
  ·obtain⟨rfl,hp4⟩:=hp
   have hr0:0<val W32 gJ:=Nat.pos_of_ne_zero fun h=>by rw[he4.2 h]at hp4;exact absurd hp4 au
   obtain⟨hq1,hq2⟩:=hlaw1 ⟨rfl,hr0⟩
   have hlen:gJ.length≤zs2.length:=by
    refine Vg fun h=>?_
    have:=YX (b:=W32) dq hz2 hz4 oq
    omega
   repeat' first|apply jS|apply jO|apply jN|apply jT|refine Q1 ?_|refine Q3 ?_|refine Q0 ?_|refine Qb ?_|refine QD (h:=?_)|refine Qv (h:=?_)|refine Z4 (h:=?_)|(refine Zg (h1:=?_) (h2:=?_)<;>intro hc<;>try omega)|refine QG (h:=fun _=>?_)|refine Q8 rfl ?_
   rename_i b9
   have hO9:aX [(b9,.cells ⟨[.int .u64 1]⟩ 80)] (.slice (some ⟨b9,0,none⟩) 1 1) 1 [1]:=Xy b9 1 [1] _ rfl rfl oq
   refine Qf (A:=[_,_,_,_,_]) rfl trivial rfl rfl rfl (fun w hk hs=>Qpy w _ _ _ _ _ _ (hO3.rd.at hk hs Q6) (hO9.rd.at hk hs Q6) hz3.lt (fun x hx=>by rw[List.mem_singleton]at hx;rw[hx];decide) oq oq) fun w v w' _ _ _ hR=>?_
   obtain⟨N5,zs5,jh,iL,hz5,dW⟩:=hR
   refine⟨N5,jh,?_⟩
   rw[Qa9]at dW
   have hzl5:zs5.length≤k / 4+1+1:=hz5.bV dq (by
    rw[dW,Va]
    have h1:val W32 dK≤val W32 dK*val W32 zs2:=Nat.le_mul_of_pos_right _ oq
    show _<W32 ^ (k / 4+1)*4294967296
    omega)
   repeat' first|refine Q1 ?_|fail
   refine Qf (A:=[_,_,_,_,_]) rfl trivial rfl rfl rfl (fun w hk hs=>Qil w _ _ _ _ _ _ (hO2.rd.at hk hs Q6) (bT.rd.at hk hs Q6) hz2.lt hz4.lt oq hlen oq) fun w v w' _ _ _ hR=>?_
   obtain⟨N6,zs6,hN6,gY,hz6,hval6⟩:=hR
   refine⟨N6,hN6,?_⟩
   have hzl6:zs6.length≤k / 4+1:=hz6.bV dq oq
   repeat' first|apply jS|apply jO|apply jN|refine Q1 ?_|refine Q3 ?_|refine Q0 ?_|refine Qb ?_|refine Q4g (h:=?_)|apply jT
   refine Q5 trivial rfl rfl rfl (fun w hk hs=>Y4 w _ _ zs5 (true != q) (iL.rd.at hk hs Q6) hz5.lt oq) fun w v w' _ _ _ hR=>?_
   subst hR
   repeat' first|refine Q1 ?_|fail
   refine Q5 trivial rfl rfl rfl (fun w hk hs=>Y4 w _ _ zs6 false (gY.rd.at hk hs Q6) hz6.lt oq) fun w v w' _ _ _ hR=>?_
   subst hR
   repeat' first|apply jN|apply jT|refine Q0 ?_|refine Q2 ?_|refine Q2 ?_|apply jR
   refine Y7 2 1 rfl rfl rfl rfl rfl rfl rfl (fun a w' st=>⟨st.kp,?_⟩)
   show Value.tuple #[Wv (bQ (true != q) (val W32 zs5)),Wv (bQ false (val W32 zs6)),_]=_
   rw[dW,hq1, ← hq2, ← bJ]
   have:val W32 zs6=val W32 zs2-val W32 gJ:=by omega
   rw[this]
   rfl
  have hq:=hlaw2 (fun⟨h1,h2⟩=>hp ⟨h1,by
   refine Nat.pos_of_ne_zero fun h=>?_
   have:=List.eq_nil_of_length_eq_zero h
   rw[this]at h2
   exact absurd h2 (by simp[val])⟩)
  obtain⟨hq1,hq2⟩:=hq
  have hnp:p=true→gJ.length=0:=fun h=>by
   refine Vg fun h'=>hp ⟨h,by omega⟩
  cases p with
  | false =>
   repeat' first|apply jS|apply jO|apply jN|apply jT|refine Q1 ?_|refine Q3 ?_|refine Q0 ?_|refine Qb ?_|refine QC (h:=?_)|refine Qv (h:=?_)|refine Q4g (h:=?_)|refine Q4 rfl ?_|refine QU (h:=?_)|apply jK
   refine Q5 trivial rfl rfl rfl (fun w hk hs=>Y4 w _ _ dK (false != q) (hO3.rd.at hk hs Q6) hz3.lt oq) fun w v w' _ _ _ hR=>?_
   subst hR
   repeat' first|refine Q1 ?_|fail
   refine Q5 trivial rfl rfl rfl (fun w hk hs=>Y4 w _ _ gJ false (bT.rd.at hk hs Q6) hz4.lt oq) fun w v w' _ _ _ hR=>?_
   subst hR
   repeat' first|apply jN|apply jT|refine Q0 ?_|refine Q2 ?_|refine Q2 ?_|apply jR
   refine Y7 1 0 rfl rfl rfl rfl rfl rfl rfl (fun a w' st=>⟨st.kp,?_⟩)
   show Value.tuple #[Wv (bQ (false != q) (val W32 dK)),Wv (bQ false (val W32 gJ)),_]=_
   rw[hq1, ← hq2]
   rfl
  | true =>
   have hz0:=hnp rfl
   repeat' first|apply jS|apply jO|apply jN|apply jT|refine Q1 ?_|refine Q3 ?_|refine Q0 ?_|refine Qb ?_|refine QD (h:=?_)|refine Qv (h:=?_)|refine Z4 (h:=?_)|(refine Zg (h1:=?_) (h2:=?_)<;>intro hc<;>try omega)|refine Q4g (h:=?_)|apply jK|refine Q4 rfl ?_
   refine Q5 trivial rfl rfl rfl (fun w hk hs=>Y4 w _ _ dK (true != q) (hO3.rd.at hk hs Q6) hz3.lt oq) fun w v w' _ _ _ hR=>?_
   subst hR
   repeat' first|refine Q1 ?_|fail
   refine Q5 trivial rfl rfl rfl (fun w hk hs=>Y4 w _ _ gJ false (bT.rd.at hk hs Q6) hz4.lt oq) fun w v w' _ _ _ hR=>?_
   subst hR
   repeat' first|apply jN|apply jT|refine Q0 ?_|refine Q2 ?_|refine Q2 ?_|apply jR
   refine Y7 1 0 rfl rfl rfl rfl rfl rfl rfl (fun a w' st=>⟨st.kp,?_⟩)
   show Value.tuple #[Wv (bQ (true != q) (val W32 dK)),Wv (bQ false (val W32 gJ)),_]=_
   rw[hq1, ← hq2]
   rfl


abbrev wc (z:Int):Array Value:=#[.bool (decide (z<0)),sv (bD z.natAbs)]
theorem Qa7 {c:Cx} {t t' t'':Tmp} {ty ty' ty'' n n' n'' b b' b'':Nat} {cs cs' cs'':Array Value} {T T' T'':TypeId} {fz fz' fz'':Nat × Nat} {R:Value→World→Prop} {F:ak} {H:aj} [TN c.P ty n] [TN c.P ty' n'] [TN c.P ty'' n''] (k k' k'':Nat) (h1:look F t=some (.pointer (some ⟨b,0,none⟩)))
  (h2:H[k]?=some (b,Obj.cells cs T fz)) (hn:cs.size=n) (h1':look F t'=some (.pointer (some ⟨b',0,none⟩))) (h2':H[k']?=some (b',Obj.cells cs' T' fz')) (hn':cs'.size=n') (h1'':look F t''=some (.pointer (some ⟨b'',0,none⟩))) (h2'':H[k'']?=some (b'',Obj.cells cs'' T'' fz'')) (hn'':cs''.size=n'')
  (hR:∀ a w,St c F H a w→R (.tuple #[.agg cs,.agg cs',.agg cs'']) w):JX c (Yp c.P #[.cell t ty,.cell t' ty',.cell t'' ty''] (aP R)) .ret F H :=
 YI [.agg cs,.agg cs',.agg cs''] (ZU k h1 h2 hn (ZU k' h1' h2' hn' (ZU k'' h1'' h2'' hn'' JR.nil))) hR

theorem WB {a b:Int} {k:Nat} (h:a.natAbs<256 ^ k) (hb:b.natAbs≤3*a.natAbs):b.natAbs<256 ^ (k+1):=by
 rw[Va];omega
theorem Q16 (n:Nat):bQ false n=(n:Int):=rfl
theorem Qhw {g h:Int} {k:Nat} (hg:0≤g) (hh:0≤h) (hl:g.natAbs<256 ^ k):(g / h).natAbs<256 ^ k:=by
 obtain⟨G,rfl⟩:=Int.eq_ofNat_of_zero_le hg
 obtain⟨K,rfl⟩:=Int.eq_ofNat_of_zero_le hh
 have e:(G:Int) / K=((G / K:Nat):Int):=rfl
 rw[e,Int.natAbs_natCast]at *
 exact V5 (Nat.div_le_self _ _) hl
theorem Qsn (w:World) (v u:Value) (a b:Int) (k:Nat) (hv:dR v a k) (hu:dR u b k) (hk:k≤14000000000000) :
  Calls Tryz.prog 152 #[v,u] w (aP fun r w'=>Kp [] w w'∧∃ g x y,r=.tuple #[Wv g,Wv x,Wv y]∧GcdP a b g x y):=by
 have hZa:=hv
 have hZb:=hu
 obtain⟨p,l,rfl,hl1,ha⟩:=hv
 obtain⟨q,l',rfl,hl2,hb'⟩:=hu
 have haN:a.natAbs=bW (dQ l):=by rw[ha,YE]
 have hbN:b.natAbs=bW (dQ l'):=by rw[hb',YE]
 have hsa : -9223372036854775808≤a.sign∧a.sign<9223372036854775808:=by
  rcases Int.lt_trichotomy a 0 with h|h|h
  ·rw[Int.sign_eq_neg_one_of_neg h];omega
  ·subst h;decide
  ·rw[Int.sign_eq_one_of_pos h];omega
 have hZabs:∀ {z:Int},z.natAbs<256 ^ k→dR (Wv z) z k:=fun h=>Qi h
 refine Q6o [8] [⟨2,1,[0,3,6,1,2,4,5,7,8,9],[]⟩,⟨3,1,[0,3,1,2,4,5,6,7],[]⟩,⟨7,1,[],[]⟩,⟨8,1,[],[]⟩,⟨9,3,[0,3,1,2,4,5,6,7,8,9,10,11,12,13],[]⟩,⟨11,1,[0,1,2,5,3,4,6,7,8,9,10,11],[]⟩,⟨12,1,[],[]⟩] [] au [] Tryz.func152 rfl mixed (by kernel_rfl) Tryz.ntmps152 Tryz.results152 rfl ⟨by simp,by simp⟩ au ?_
 simp only[toR,inR,cond_true,cond_false,Nat.reduceBEq,toS,Qd,Qt,Qk,Ql,ay,Qg,QA,aC]
 repeat' first|apply jS|apply jO|apply jN|refine Q7 ?_|refine Qc fun _=>?_|refine QB fun _=>?_|apply jT
 rename_i b2 b3 b4 b5 b6
 refine Q5 trivial rfl rfl rfl (fun w hk' hs=>XU w _ b k hZb oq) fun w v w' _ _ _ hR=>?_
 subst hR
 by_cases hb:b=0
 ·have hbs:b.sign=0:=by rw[hb];rfl
  repeat' first|apply jS|apply jN|apply jT|(refine Z9 (h1:=?_) (h2:=?_)<;>intro hc<;>try omega)|refine Q8 rfl ?_
  refine Z7 [(b6,.cells #[.bool false,.string ⟨#[]⟩] 35 (0,0)),(b3,.cells #[.bool q,sv l'] 35 (0,0)),(b2,.cells #[.bool p,sv l] 35 (0,0))] QK ?_
  repeat' first|refine Q7 ?_|fail
  refine Qf (A:=[_,_,_,_,_]) rfl trivial rfl rfl rfl (fun w hk hs=>Q3a w p l oq) fun w v w' _ _ _ hR=>?_
  obtain⟨N1,zs1,hN1,bT,hz1,aV⟩:=hR
  refine⟨N1,hN1,?_⟩
  have hzl1:=Yg hz1 aV hl1
  skip
  refine Q5 trivial rfl rfl rfl (fun w hk hs=>Y4 w _ _ zs1 false (bT.rd.at hk hs Q6) hz1.lt oq) fun w v w' _ _ _ hR=>?_
  rw[aV,Q16, ← haN]at hR
  subst hR
  skip
  refine Q5 trivial rfl rfl rfl (fun w hk' hs=>XU w _ a k hZa oq) fun w v w' _ _ _ hR=>?_
  subst hR
  skip
  refine Q5 trivial rfl rfl rfl (fun w hk' hs=>WE w a.sign hsa.1 hsa.2) fun w v w' _ _ _ hR=>?_
  subst hR
  repeat' first|apply jN|apply jT|refine Q2 ?_|refine ZW (k:=_) (h:=?_)|refine Q2 ?_|apply jV|apply jR
  exact Qa7 2 1 0 rfl rfl rfl rfl rfl rfl rfl rfl rfl (fun a' w' st=>⟨st.kp,(a.natAbs:Int),a.sign,0,rfl,by rw[hb];exact Q2x a⟩)
 have hbs:b.sign≠0:=fun h=>hb (Int.sign_eq_zero_iff_zero.1 h)
 repeat' first|apply jS|apply jN|apply jT|(refine Z9 (h1:=?_) (h2:=?_)<;>intro hc<;>try omega)|apply jK|refine Q4 rfl ?_
 refine Z7 [(b6,.cells #[.bool false,.string ⟨#[]⟩] 35 (0,0)),(b3,.cells #[.bool q,sv l'] 35 (0,0)),(b2,.cells #[.bool p,sv l] 35 (0,0))] QK ?_
 repeat' first|refine Q7 ?_|fail
 refine Qf (A:=[_,_,_,_,_]) rfl trivial rfl rfl rfl (fun w hk hs=>Q3a w p l oq) fun w v w' _ _ _ hR=>?_
 obtain⟨N1,zs1,hN1,bT,hz1,aV⟩:=hR
 refine⟨N1,hN1,?_⟩
 have hzl1:=Yg hz1 aV hl1
 skip
 refine Q5 trivial rfl rfl rfl (fun w hk hs=>Y4 w _ _ zs1 false (bT.rd.at hk hs Q6) hz1.lt oq) fun w v w' _ _ _ hR=>?_
 rw[aV,Q16, ← haN]at hR
 subst hR
 skip
 refine Q5 trivial rfl rfl rfl (fun w hk' hs=>XU w _ a k hZa oq) fun w v w' _ _ _ hR=>?_
 subst hR
 skip
 refine Q5 trivial rfl rfl rfl (fun w hk' hs=>WE w a.sign hsa.1 hsa.2) fun w v w' _ _ _ hR=>?_
 subst hR
 repeat' first|apply jS|apply jO|apply jN|refine Q7 ?_|refine Q2 ?_|refine ZW (k:=_) (h:=?_)|refine Q2 ?_|apply jT
 refine Qf (A:=[_,_,_,_,_]) rfl trivial rfl rfl rfl (fun w hk hs=>Q3a w q l' oq) fun w v w' _ _ _ hR=>?_
 obtain⟨N2,zs2,fA,hO2,hz2,bJ⟩:=hR
 refine⟨N2,fA,?_⟩
 have hzl2:=Yg hz2 bJ hl2
 skip
 refine Q5 trivial rfl rfl rfl (fun w hk hs=>Y4 w _ _ zs2 false (hO2.rd.at hk hs Q6) hz2.lt oq) fun w v w' _ _ _ hR=>?_
 rw[bJ,Q16, ← hbN]at hR
 subst hR
 repeat' first|apply jS|apply jN|apply jT|refine Q2 ?_|refine Qc fun _=>?_|refine Zh (h:=?_)|refine Q2 ?_|apply jB
 rename_i b7 b8
 have hb1:1≤b.natAbs:=by omega
 refine Qp (ι:=Int × Int × Int × Int) ⟨fun z=>[(8,.pointer (some ⟨b8,0,none⟩)),(7,.pointer (some ⟨b7,0,none⟩)),(6,.pointer (some ⟨b6,0,none⟩)),(5,.pointer (some ⟨b5,0,none⟩)),(4,.pointer (some ⟨b4,0,none⟩)),(3,.pointer (some ⟨b3,0,none⟩)),(2,.pointer (some ⟨b2,0,none⟩))],
  fun z=>[(b8,.cells (wc z.2.2.2) 35 (0,0)),(b7,.cells (wc z.2.1) 35 (0,0)),(b6,.cells #[.bool false,.string ⟨#[]⟩] 35 (0,0)),(b5,.cells (wc z.2.2.1) 35 (0,0)),(b4,.cells (wc z.1) 35 (0,0)),(b3,.cells #[.bool q,sv l'] 35 (0,0)),(b2,.cells #[.bool p,sv l] 35 (0,0))],
  fun z=>GI a b z.1 z.2.1 z.2.2.1 z.2.2.2∧z.2.2.1.natAbs≤3*b.natAbs∧z.2.2.2.natAbs≤3*b.natAbs∧z.1.natAbs<256 ^ k∧z.2.1.natAbs<256 ^ k,fun z=>z.2.1.natAbs⟩
  ((a.natAbs : Int), (b.natAbs : Int), a.sign, 0) ⟨Qlv a b, by
   show a.sign.natAbs≤_
   have:a.sign.natAbs≤1:=by rcases Int.lt_trichotomy a 0 with h|h|h<;>simp[Int.sign_eq_neg_one_of_neg,Int.sign_eq_one_of_pos,h]
   omega,by simp,by simpa using hZa.lt,by simpa using hZb.lt⟩ aF QK (fun z hz=>?_)
 obtain⟨g,h,x,y⟩:=z
 obtain⟨hGI,hx3,hy3,hgk,hhk⟩:=hz
 dsimp only at hGI hx3 hy3 hgk hhk ⊢
 have hZx:dR (Wv x) x (k+1):=Qi (WB hZb.lt hx3)
 have hZy:dR (Wv y) y (k+1):=Qi (WB hZb.lt hy3)
 have hZg:dR (Wv g) g k:=Qi hgk
 have hZh:dR (Wv h) h k:=Qi hhk
 by_cases hh:h=0
 ·subst hh
  have hs0:Int.sign 0=0:=rfl
  have hgg:g=Int.gcd a b:=by
   have h1:=hGI.gcd
   rw[Int.gcd_zero_right]at h1
   have:=hGI.g0
   omega
  have hgp:0<g:=by
   have h1:0<Int.gcd a b:=Int.gcd_pos_of_ne_zero_right _ hb
   omega
  have hdb:g∣b:=by rw[hgg];exact Int.gcd_dvd_right ..
  obtain⟨y0,hex⟩:=hGI.ex
  have hmg:(b / g)*g=b:=Int.ediv_mul_cancel hdb
  have hbg0:b / g≠0:=fun e=>by rw[e,Int.zero_mul]at hmg;exact hb hmg.symm
  have hmm:(b.natAbs:Int) / g*g=b.natAbs:=Int.ediv_mul_cancel (Int.dvd_natAbs.2 hdb)
  have hm0:(b.natAbs:Int) / g≠0:=fun e=>by rw[e,Int.zero_mul]at hmm;omega
  have hm1:((b.natAbs:Int) / g).natAbs<256 ^ k:=Qhw oq oq (by simpa using hZb.lt)
  have hxm:=Qa6 (x:=x) hdb
  have hx1:(x % (b / g)).natAbs<256 ^ k:=by
   have h1:=Int.emod_nonneg x hm0
   have h2:=Int.emod_lt x hm0
   rw[hxm]at h1 h2
   omega
  have hZx':dR (Wv (x % (b / g))) (x % (b / g)) k:=Qi hx1
  have hZxa:dR (Wv (x % (b / g)*a)) (x % (b / g)*a) (2*k):=(Qi (Qmc hx1 hZa.lt)).mono oq
  have hZgx:dR (Wv (g-x % (b / g)*a)) (g-x % (b / g)*a) (2*k+1):=by
   rw[Int.sub_eq_add_neg]
   exact dR.add (hZg.mono (show k≤2*k by omega)).lt (by rw[Int.natAbs_neg];exact hZxa.lt)
  repeat' first|apply jS|refine Q7 ?_|apply jO
  refine Q5 trivial rfl rfl rfl (fun w hk' hs=>XU w _ 0 k hZh oq) fun w v w' _ _ _ hR=>?_
  subst hR
  repeat' first|apply jS|apply jD|apply jN|apply jT|refine Q7 ?_|(refine Ze (h1:=?_) (h2:=?_)<;>intro hc<;>try omega)|apply jU|apply jE|refine Q4 rfl ?_|apply Qe
  refine Qf (A:=[_,_,_,_,_,_,_]) rfl trivial rfl rfl rfl (fun w hk hs=>Q3a w q l' oq) fun w v w' _ _ _ hR=>?_
  obtain⟨N3,dK,hN3,hO3,hz3,hval3⟩:=hR
  refine⟨N3,hN3,?_⟩
  have hzl3:=Yg hz3 hval3 hl2
  skip
  refine Q5 trivial rfl rfl rfl (fun w hk hs=>Y4 w _ _ dK false (hO3.rd.at hk hs Q6) hz3.lt oq) fun w v w' _ _ _ hR=>?_
  rw[hval3,Q16, ← hbN]at hR
  subst hR
  skip
  refine Q5 trivial rfl rfl rfl (fun w hk' hs=>Q3b w _ _ (b.natAbs:Int) g k (Qi (by simpa using hZb.lt)) hZg oq) fun w v w' _ _ _ hR=>?_
  rw[if_neg oq]at hR
  subst hR
  repeat' first|apply jS|apply jO|apply jN|refine Q1 ?_|refine Q0 ?_|refine Q7 ?_|refine Qv (h:=?_)|refine Q2 ?_|refine Qc fun _=>?_|refine Q2 ?_|apply jT
  refine Q5 trivial rfl rfl rfl (fun w hk' hs=>Q3b w _ _ x ((b.natAbs:Int) / g) (k+1) hZx ((Qi hm1).mono oq) oq) fun w v w' _ _ _ hR=>?_
  rw[if_neg hm0,hxm]at hR
  subst hR
  repeat' first|apply jS|apply jD|apply jN|refine Q1 ?_|refine Q7 ?_|refine Qv (h:=?_)|refine Q2 ?_|refine Q2 ?_|apply jT
  refine Q5 trivial rfl rfl rfl (fun w hk' hs=>Qa0 w _ _ (x % (b / g)) a k hZx' hZa oq) fun w v w' _ _ _ hR=>?_
  subst hR
  skip
  refine Q5 trivial rfl rfl rfl (fun w hk' hs=>Qlh w _ _ g (x % (b / g)*a) (2*k) (hZg.mono oq) hZxa oq) fun w v w' _ _ _ hR=>?_
  subst hR
  skip
  refine Q5 trivial rfl rfl rfl (fun w hk' hs=>Q3b w _ _ (g-x % (b / g)*a) b (2*k+1) hZgx (hZb.mono oq) oq) fun w v w' _ _ _ hR=>?_
  rw[if_neg hb]at hR
  subst hR
  repeat' first|apply jS|apply jD|apply jN|apply jT|refine Q1 ?_|refine Q7 ?_|refine Qv (h:=?_)|refine Q2 ?_|refine ZW (k:=_) (h:=?_)|refine Q2 ?_|apply jR
  exact Qa7 6 5 4 rfl rfl rfl rfl rfl rfl rfl rfl rfl (fun a' w' st=>⟨st.kp,g,x % (b / g),(g-x % (b / g)*a) / b,rfl,Qhm hgg hb hex⟩)
 ·have hs0:h.sign≠0:=fun e=>hh (Int.sign_eq_zero_iff_zero.1 e)
  have hq1:=Qhw hGI.g0 hGI.h0 hgk
  have hZq:dR (Wv (g / h)) (g / h) (k+1):=(Qi hq1).mono oq
  have hstep:=hGI.step hh
  have hZqy:dR (Wv (g / h*y)) (g / h*y) (2*k+2):=(Qi (Qmc hZq.lt hZy.lt)).mono oq
  have hu3:(x-g / h*y).natAbs≤3*b.natAbs:=by
   have h1:=hstep.sz
   have h2:=Nat.le_mul_of_pos_right (x-g / h*y).natAbs (show 0<h.natAbs by omega)
   omega
  have hr1:=Int.emod_nonneg g hh
  have hr2:=Int.emod_lt g hh
  repeat' first|apply jS|refine Q7 ?_|apply jO
  refine Q5 trivial rfl rfl rfl (fun w hk' hs=>XU w _ h k hZh oq) fun w v w' _ _ _ hR=>?_
  subst hR
  repeat' first|apply jS|apply jO|apply jN|apply jT|refine Q7 ?_|(refine Ze (h1:=?_) (h2:=?_)<;>intro hc<;>try omega)|apply jK|refine Q8 rfl ?_|apply jB
  refine Q5 trivial rfl rfl rfl (fun w hk' hs=>Q3b w _ _ g h k hZg hZh oq) fun w v w' _ _ _ hR=>?_
  rw[if_neg hh]at hR
  subst hR
  repeat' first|apply jS|apply jN|refine Q1 ?_|refine Q0 ?_|refine Qv (h:=?_)|refine Q2 ?_|refine Qc fun _=>?_|refine Q2 ?_|apply jT
  rename_i b9 b10
  refine Z7 [(b10,.cells (wc (g % h)) 35 (0,0)),(b9,.cells (wc (g / h)) 35 (0,0)),(b8,.cells (wc y) 35 (0,0)),(b7,.cells (wc h) 35 (0,0))] QK ?_
  repeat' first|apply jN|refine Q7 ?_|refine Q2 ?_|refine ZW (k:=_) (h:=?_)|refine Q2 ?_|apply jT
  refine Qls [(b9,.cells (wc (g / h)) 35 (0,0)),(b8,.cells (wc y) 35 (0,0))] QK 1 4 (fun i op=>Qk [(1,.seq)] i op) 1 1 [0,2,3,1,4,5,6,7] [0,2,3,4,1,5,6,7] dq mixed (by kernel_rfl) (by kernel_rfl) ?_ ?_
  ·repeat' first|refine Q7 ?_|refine Qm8 (k:=_) (h:=?_)|fail
   refine Q5 aA rfl rfl rfl (fun w hk' hs=>Qa0 w _ _ (g / h) y (k+1) hZq hZy oq) fun w v w' _ _ _ hR=>?_
   subst hR
   skip
   refine Q5 aA rfl rfl rfl (fun w hk' hs=>Qlh w _ _ x (g / h*y) (2*k+2) (hZx.mono oq) hZqy oq) fun w v w' _ _ _ hR=>?_
   subst hR
   repeat' first|apply jN|refine Q2 ?_|refine ZW (k:=_) (h:=?_)|refine Q2 ?_|apply jW
   exact Qa (h,g % h,y,x-g / h*y) ⟨hstep,hy3,hu3,hhk,by dsimp only;omega⟩ aY aF QK
  ·repeat' first|refine Q7 ?_|fail
   refine Q5 aA rfl rfl rfl (fun w hk' hs=>Qa0 w _ _ (g / h) y (k+1) hZq hZy oq) fun w v w' _ _ _ hR=>?_
   subst hR
   repeat' first|refine Qm8 (k:=_) (h:=?_)|fail
   refine Q5 aA rfl rfl rfl (fun w hk' hs=>Qlh w _ _ x (g / h*y) (2*k+2) (hZx.mono oq) hZqy oq) fun w v w' _ _ _ hR=>?_
   subst hR
   repeat' first|apply jN|refine Q2 ?_|refine ZW (k:=_) (h:=?_)|refine Q2 ?_|apply jW
   exact Qa (h,g % h,y,x-g / h*y) ⟨hstep,hy3,hu3,hhk,by dsimp only;omega⟩ aY aF QK

end Go.Proofs.YtljmapfihjkafaaGreatDoor

