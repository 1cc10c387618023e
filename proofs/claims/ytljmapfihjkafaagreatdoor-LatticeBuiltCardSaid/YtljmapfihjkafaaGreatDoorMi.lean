import Derived.Test.YtljmapfihjkafaaGreatDoorMh
import Derived.Test.YtljmapfihjkafaaGreatDoorMe
import Derived.Shelf.Spec.SlicesGrow
set_option maxHeartbeats 16000000
namespace Go.Proofs.YtljmapfihjkafaaGreatDoor
open Go Go.RowKit
set_option linter.unusedSimpArgs false
set_option linter.unusedVariables false
set_option linter.unusedSectionVars false

section
variable {c:Cx} {Q:Exit→Act→World→Prop} {F:ak} {H:aj} {r:List dA} {g:Option (Option Tmp × Bool)} {ns:Bool} {ty:TypeId} {x:Operand}
theorem Q4k {A N B Hs:aj} {f:FuncId} {args:Array Operand} {ats:Array TypeId} {vs:List Value} {first cap:Array Value} {R:World→Value→World→Prop} {dd:Option Tmp} [TF c.P f] (hH:H=A++(N++B)) (iD:HSub Hs (A++B)) (hd:Qx c.n dd=true) (hg:Qh F g=some true)
  (hx:ev F x=some (.func (.func f) first cap)) (ha:Ye F args.toList=some vs)
  (hc:∀ w,Kp c.M c.w0 w→aI H w→Calls c.P f (first++vs.toArray++cap) w (aP fun v w'=>Kp (keys N) w w'∧R w v w'))
  (h:∀ w v w',Kp c.M c.w0 w→aI H w→Kp (keys N) w w'→R w v w'→∃ N',keys N'=keys N∧InW N' w'∧JO c Q (.draw Hs true) r (fD F dd v) (A++(N'++B))) :
  JO c Q (.draw Hs true) (⟨dd,.call ⟨.value x,args,ats⟩,ty,g,.seq,ns⟩::r) F H:=by
 subst hH
 refine⟨⟨hd,.inr ⟨hg,fun a w st hs=>?_⟩⟩⟩
 have hrun:(execOp a.eval ⟨dd,.call ⟨.value x,args,ats⟩,ty, "",#[],none⟩).run c.P w=.ok (.enter f (first++vs.toArray++cap)) w:=by
  show (do let d ← resolve a.eval ⟨.value x,args,ats⟩ ty;invoke d.target d.args).run c.P w=_
  have h1:args.map a.eval=vs.toArray:=by
   have:=Xe st.fr ha
   apply Array.ext'
   rw[Array.toList_map,this]
  have h0:(resolve a.eval ⟨.value x,args,ats⟩ ty).run c.P w=.ok { target:=.fn (.func f) cap,args:=first++vs.toArray } w:=by
   simp[resolve,h1,st.fr.ev hx,Deferred.ofValue]
  rw[Sem.run_bind,h0]
  simp only[Result.andThen_ok,invoke,TF.run]
 unfold Oper.wp dA.oper
 rw[hrun]
 refine Calls.mono (hc w st.kp st.hs) fun e w' he=>?_
 cases e with
 | panicked ch=>exact he.elim
 | outgrown=>exact he.elim
 | returned v =>
  obtain⟨hk,hR⟩:=he
  obtain⟨N',hkeys,hb,hj⟩:=h w v w' st.kp st.hs hk hR
  have hp:(A++(N++B)).Perm ((A++B)++N):=(Zi A N B).symm
  have hnd:=(st.perm hp).hs.nd
  have hnd0:=hnd
  rw[Vl,List.nodup_append]at hnd
  obtain⟨st',hstep,hkk⟩:=XH (N':=N') st hp (by have:=hnd.2.1;unfold keys at hkeys;rw[hkeys];exact this) hb (fun k hk'=>.inl (hkeys▸hk')) (fun k h1 h2=>hk.block k h1 h2) hk.size hk.os hk.tape hk.output
  have hAB:aI (A++B) w':=by
   have h0:aI (A++B) w:=(HSub.sub (List.sublist_append_left (A++B) N)).bU (st.perm hp).hs
   exact h0.kp hk fun p hp' hpk=>hnd.2.2 p.1 (List.mem_map.2 ⟨p,hp',rfl⟩) p.1 hpk rfl
  refine⟨hstep,_,_,.draw Hs true,(st'.perm (Zi A N' B)).put v hd,fun k hk'=>hkk k ?_,⟨rfl,fun _=>⟨rfl,iD.bU hAB⟩,fun _=>rfl,.inl rfl⟩,hj.h⟩
  obtain⟨q,hq,rfl⟩:=List.mem_map.1 hk'
  exact List.mem_map.2 ⟨q,(Zi A N' B).mem_iff.2 hq,rfl⟩
end

theorem ZR (a b:Int):(a / b).natAbs≤a.natAbs:=Int.natAbs_ediv_le_natAbs a b
theorem Yz (K:Nat):(1:Int).natAbs<256 ^ (K+1):=by
 rw[Va];have:=bG K;show 1<_;omega
theorem XZ (K:Nat):(0:Int).natAbs<256 ^ K:=bG K
theorem Qaz {a b g x y:Int} {K:Nat} (h:GcdP a b g x y) (ha:a.natAbs<256 ^ K) (hb:b.natAbs<256 ^ K):g.natAbs≤256 ^ K∧x.natAbs≤256 ^ K∧y.natAbs≤256 ^ K+1:=by
 by_cases hz:b=0
 ·obtain⟨h1,h2⟩:=h.z hz
  have e:=h.e
  rw[hz]at e
  have e2:Int.gcd a 0=a.natAbs:=by simp[Int.gcd]
  rw[e2]at e
  have hs:a.sign.natAbs≤1:=by rcases Int.lt_trichotomy a 0 with h|h|h<;>simp[Int.sign_eq_neg_one_of_neg,Int.sign_eq_one_of_pos,h]
  have:=bG K
  refine⟨by omega,by rw[h1];omega,by rw[h2];simp⟩
 ·obtain⟨h0,h1,h2⟩:=h.n hz
  have hgp:0<g:=by
   have:=h.e
   have h1:0<Int.gcd a b:=Int.gcd_pos_of_ne_zero_right _ hz
   omega
  have hgb:g≤b.natAbs:=by
   have h5:g∣b:=by rw[h.e];exact Int.gcd_dvd_right ..
   have h6:=Int.natAbs_dvd_natAbs.2 h5
   have h7:=Nat.le_of_dvd oq h6
   omega
  have hxb:x<b.natAbs:=by
   rcases Int.lt_or_le x b.natAbs with h|h
   ·exact h
   ·have:(b.natAbs:Int)*1≤x*g:=Int.mul_le_mul h oq oq h0
    omega
  refine⟨by omega,by omega,?_⟩
  have e1:y*b=g-x*a:=by omega
  have e2:y.natAbs*b.natAbs≤g.natAbs+x.natAbs*a.natAbs:=by
   rw[← Vq,e1, ← Vq];omega
  have e3:x.natAbs*a.natAbs≤b.natAbs*a.natAbs:=V1 _ oq
  have e4:y.natAbs*b.natAbs≤(a.natAbs+1)*b.natAbs:=by rw[Vo,Vc a.natAbs];omega
  have e5:=Nat.le_of_mul_le_mul_right e4 oq
  omega
theorem Q5b {x y:Int} {tn:Tn} {ch:Bool} {K:Nat} (h:Z5 x y=some (tn,ch)) (hx:x.natAbs<256 ^ K) (hy:y.natAbs<256 ^ K):BdT (K+1) tn:=by
 unfold Z5 at h
 have hp:256 ^ (K+1)=256 ^ K*256:=Va ..
 have h0:=bG K
 split at h
 ·cases h
 ·split at h
  ·cases h
   have h1:=ZR y x
   exact⟨Yz K,XZ _,by show (-(y / x)).natAbs<_;rw[Int.natAbs_neg];omega,Yz K⟩
  ·cases h
   obtain⟨h1,h2,h3⟩:=Qaz (Q50 x y) hx hy
   have h4:=ZR y (dB x y).1
   have h5:=ZR x (dB x y).1
   exact⟨by show ((dB x y).2.1).natAbs<_;omega,by show ((dB x y).2.2).natAbs<_;omega,by show (-(y / (dB x y).1)).natAbs<_;rw[Int.natAbs_neg];omega,by show (x / (dB x y).1).natAbs<_;omega⟩

def tnC0 (z:Int):Array Value:=#[.bool (decide ((1:Int)<0)),sv (bD (Int.natAbs 1)),.bool false,.string ⟨#[]⟩,.bool (decide (z<0)),sv (bD z.natAbs),.bool (decide ((1:Int)<0)),sv (bD (Int.natAbs 1))]
theorem Qt8 (z:Int):iq ⟨1,0,z,1⟩=tnC0 z:=by
 have h:bD (Int.natAbs 0)=[]:=congrArg Prod.snd eU
 unfold iq tnC0
 dsimp only
 rw[h]
 rfl
def ClrR (b:Nat) (W:WV) (m n:Nat) (T:WT) (S:Sm) (op:Tn→Sm):Option (Tn × Bool)→Value→World→World→Prop
 | none,v,w,w'=>v=.bool false∧jJ b W m n T S w w'
 | some (tn,ch),v,w,w'=>v=.bool ch∧jJ b W m n T (op tn) w w'

theorem Qix {fR:FuncId} [TF Tryz.prog fR] (K:Nat) (w:World) (b:Nat) (W:WV) (m n:Nat) (T:WT) (S:Sm) (i k:Nat) (x y:Int) (op:Tn→Sm) (hW:dw W m n T S) (hs:aI (bF b W m n T) w)
  (hK:K≤13400000000000) (hx:x.natAbs<256 ^ K) (hy:y.natAbs<256 ^ K)
  (hcall:∀ (t:Tn) (w:World),BdT (K+1) t→aI (bF b W m n T) w→Calls Tryz.prog fR #[.pointer (some ⟨b,0,none⟩),nv i,nv k,.agg (iq t)] w (aP fun _ w'=>jJ b W m n T (op t) w w')) :
  Calls Tryz.prog 130 #[Wv x,Wv y,nv i,nv k,.func (.func fR) #[.pointer (some ⟨b,0,none⟩)] #[]] w (aP fun v w'=>Kp (keys (bF b W m n T)) w w'∧ClrR b W m n T S op (Z5 x y) v w w'):=by
 have hM:=Zk hs
 refine Q9 [⟨6,0,[0,1,2,3,4,5,7,6,8,9],[]⟩,⟨11,0,[0,1,2,3,4,5,7,6,8,9],[]⟩] (keys (bF b W m n T)) hM (bF b W m n T++[]) Tryz.func130 rfl mixed (by kernel_rfl) Tryz.ntmps130 Tryz.results130 rfl (by simpa using hs) (fun p hp=>List.mem_map.2 ⟨p,by simpa using hp,rfl⟩) ?_
 simp only[toS,Qd,Qt,Qk,Ql,ay,Qg,QA,aC]
 repeat' first|apply jS|apply jO|apply jN|refine Q0 ?_|refine Q7 ?_|refine QB fun _=>?_|apply jT
 rename_i b5 b6
 refine Q5 aA rfl aH rfl (fun w _ _=>XU w _ y K (Qi hy) oq) fun w v w' _ _ _ hR=>?_
 subst hR
 repeat' first|apply jS|apply jO|apply jN|apply jT|refine Q0 ?_|(refine Z9 (h1:=?_) (h2:=?_)<;>intro hc<;>try omega)|apply jV|apply jK|apply jR|refine Q8 rfl ?_|refine Q4 rfl ?_
 ·have e:Z5 x y=none:=by unfold Z5;rw[if_pos (Int.sign_eq_zero_iff_zero.1 hc)]
  exact Qn rfl (fun a w' st=>⟨st.kp,by rw[e];exact⟨rfl,st.kp,T,rfl,fun p hp=>st.hs.blk p (by simpa using Or.inr (Or.inr hp)),hW,bK.refl T⟩⟩)
 ·have hy0:y≠0:=fun h=>hc (by rw[h];rfl)
  refine Q5 aA rfl aH rfl (fun w _ _=>WE w 1 dq dq) fun w v w' _ _ _ hR=>?_
  subst hR
  repeat' first|apply jS|apply jO|apply jN|refine Q7 ?_|refine Q2 ?_|refine Qc fun _=>?_|refine Q2 ?_|apply jT
  rename_i b11
  refine Q5 aA rfl aH rfl (fun w _ _=>Q3b w _ _ y x K (Qi hy) (Qi hx) oq) fun w v w' _ _ _ hR=>?_
  have hQ:∃ q r z,v=.tuple #[Wv q,Wv r,.bool z]∧(z=true→x≠0∧q=y / x∧r=y % x)∧(z=false→x=0)∧q.natAbs<256 ^ K∧r.natAbs<256 ^ K:=by
   by_cases h0:x=0
   ·rw[if_pos h0]at hR;exact⟨0,0,false,hR,fun h=>(by cases h),fun _=>h0,bG K,bG K⟩
   ·rw[if_neg h0]at hR;exact⟨_,_,true,hR,fun _=>⟨h0,rfl,rfl⟩,fun h=>(by cases h),by have:=ZR y x;omega,by have:=Int.emod_lt y h0;have:=Int.emod_nonneg y h0;omega⟩
  clear hR
  obtain⟨q,r,z,rfl,hz1,hz2,hqb,hrb⟩:=hQ
  repeat' first|refine Q1 ?_|refine Q0 ?_|refine Qv (h:=?_)|refine Q2 ?_|refine Qc fun _=>?_|refine Q2 ?_|apply jN
  rename_i b12 b13
  refine JX.part (F':=[(14,.bool z),(13,.pointer (some ⟨b13,0,none⟩)),(12,.pointer (some ⟨b12,0,none⟩)),(11,.pointer (some ⟨b11,0,none⟩)),(6,.pointer (some ⟨b6,0,none⟩)),(5,.pointer (some ⟨b5,0,none⟩)),(2,nv i),(3,nv k),(4,.func (.func fR) #[.pointer (some ⟨b,0,none⟩)] #[])])
   (H':=[(b13,.cells (wc r) 35),(b12,.cells (wc q) 35),(b11,.cells (wc 1) 35),(b6,.cells (wc y) 35),(b5,.cells (wc x) 35)]++(bF b W m n T++[])) aF QK ?_
  cases z with
  | true =>
   obtain⟨hx0,hq,hr⟩:=hz1 rfl
   apply QE
   repeat' first|apply jS|refine Q1 ?_|refine Q7 ?_|apply jO
   refine Q5 aA rfl aH rfl (fun w _ _=>XU w _ r K (Qi hrb) oq) fun w v w' _ _ _ hR=>?_
   subst hR
   repeat' first|apply jS|apply jO|apply jN|apply jT|refine Q7 ?_|refine QD (h:=?_)|(refine Z9 (h1:=?_) (h2:=?_)<;>intro hc<;>try omega)|apply jK|refine Q8 rfl ?_|refine Q4 rfl ?_
   ·have e:Z5 x y=some (⟨1,0,-q,1⟩,false):=by
     have:=Int.sign_eq_zero_iff_zero.1 hc
     unfold Z5;rw[if_neg hy0,if_pos ⟨hx0,by omega⟩,hq]
    have hbd:=Q5b e hx hy
    refine Z7 [(b12,.cells (wc q) 35),(b11,.cells (wc 1) 35)] Qy ?_
    repeat' first|refine Q1 ?_|refine Q7 ?_|refine Q3j (h:=?_)|fail
    refine Q5 aA rfl aH rfl (fun w _ _=>Q8c w _ q K (Qi hqb) oq) fun w v w' _ _ _ hR=>?_
    subst hR
    skip
    refine ZP (l:=[(0,Wv 1),(1,.agg #[.bool false,.string ⟨#[]⟩]),(2,Wv (-q)),(3,Wv 1)]) (cs:=tnC0 (-q)) rfl rfl rfl (by kernel_rfl) ?_
    skip
    refine Q4k (A:=[_,_,_,_,_]) (N:=bF b W m n T) (B:=[]) (R:=fun w _ w'=>jJ b W m n T (op ⟨1,0,-q,1⟩) w w') rfl Qy rfl aH rfl rfl (fun w _ hs=>?_) (fun w1 v1 w2 _ _ _ hR=>?_)
    ·have h:=hcall ⟨1,0,-q,1⟩ w hbd (HSub.bU (by rw[Vj];exact Qr (HSub.refl _)) hs)
     rw[Qt8]at h
     exact QN h fun v w' h=>⟨h.1,h⟩
    ·obtain⟨_,T',hkk,hin,hW',hV'⟩:=hR
     refine⟨bF b W m n T',hkk,hin,?_⟩
     repeat' first|apply jS|apply jO|apply jN|apply jT|refine Q0 ?_|apply jV|apply jR
     exact Qn rfl (fun a w' st=>⟨st.kp,by rw[e];exact⟨rfl,st.kp,T',hkk,fun p hp=>st.hs.blk p (List.mem_append_right _ (List.mem_append_left _ hp)),hW',hV'⟩⟩)
   ·have hnd:¬(x≠0∧y % x=0):=fun h=>hc (by rw[hr,h.2];rfl)
    obtain⟨g,s,t,hgst⟩:∃ g s t,dB x y=(g,s,t):=⟨_,_,_,rfl⟩
    have hG:GcdP x y g s t:=by have:=Q50 x y;rw[hgst]at this;exact this
    have hg0:g≠0:=by
     have h1:=hG.e
     have h2:0<Int.gcd x y:=Int.gcd_pos_of_ne_zero_right _ hy0
     omega
    have e:Z5 x y=some (⟨s,t,-(y / g),x / g⟩,true):=by unfold Z5;rw[if_neg hy0,if_neg hnd,hgst]
    have hbd:=Q5b e hx hy
    have hgb:g.natAbs<256 ^ (K+1):=by
     have:=(Qaz hG hx hy).1
     have:=bG K
     rw[Va];omega
    have hyg:(y / g).natAbs<256 ^ (K+1):=by have h1:=ZR y g;exact Y6 oq (Nat.le_succ K)
    refine Q5 aA rfl aH rfl (fun w _ _=>Qsn w _ _ x y K (Qi hx) (Qi hy) oq) fun w v w' _ _ _ hR=>?_
    obtain⟨g',s',t',rfl,hG'⟩:=hR
    obtain⟨rfl,rfl,rfl⟩:=hG.unique hG'
    repeat' first|refine Q1 ?_|refine Qv (h:=?_)|refine Q2 ?_|refine Qc fun _=>?_|refine Q2 ?_|apply jN
    rename_i b15 b16 b17
    refine JX.part (F':=[(17,.pointer (some ⟨b17,0,none⟩)),(16,.pointer (some ⟨b16,0,none⟩)),(15,.pointer (some ⟨b15,0,none⟩)),(6,.pointer (some ⟨b6,0,none⟩)),(5,.pointer (some ⟨b5,0,none⟩)),(2,nv i),(3,nv k),(4,.func (.func fR) #[.pointer (some ⟨b,0,none⟩)] #[])]) (H':=[(b17,.cells (wc t) 35),(b16,.cells (wc s) 35),(b15,.cells (wc g) 35),(b6,.cells (wc y) 35),(b5,.cells (wc x) 35)]++(bF b W m n T++[])) aF QK ?_
    apply QE
    repeat' first|apply jS|refine Q7 ?_|apply jO
    refine Q5 aA rfl aH rfl (fun w _ _=>Q3b w _ _ x g (K+1) (Qi (Y6 hx (Nat.le_succ K))) (Qi hgb) oq) fun w v w' _ _ _ hR=>?_
    rw[if_neg hg0]at hR
    subst hR
    repeat' first|refine Q1 ?_|refine Q0 ?_|refine Qv (h:=?_)|refine Q2 ?_|refine Qc fun _=>?_|refine Q2 ?_|apply jN
    rename_i b18 b19
    refine JX.part (F':=[(18,.pointer (some ⟨b18,0,none⟩)),(17,.pointer (some ⟨b17,0,none⟩)),(16,.pointer (some ⟨b16,0,none⟩)),(15,.pointer (some ⟨b15,0,none⟩)),(6,.pointer (some ⟨b6,0,none⟩)),(2,nv i),(3,nv k),(4,.func (.func fR) #[.pointer (some ⟨b,0,none⟩)] #[])]) (H':=[(b18,.cells (wc (x / g)) 35),(b17,.cells (wc t) 35),(b16,.cells (wc s) 35),(b15,.cells (wc g) 35),(b6,.cells (wc y) 35)]++(bF b W m n T++[])) aF QK ?_
    apply QE
    repeat' first|apply jS|refine Q7 ?_|apply jO
    refine Q5 aA rfl aH rfl (fun w _ _=>Q3b w _ _ y g (K+1) (Qi (Y6 hy (Nat.le_succ K))) (Qi hgb) oq) fun w v w' _ _ _ hR=>?_
    rw[if_neg hg0]at hR
    subst hR
    repeat' first|refine Q1 ?_|refine Q0 ?_|refine Qv (h:=?_)|refine Q2 ?_|refine Qc fun _=>?_|refine Q2 ?_|apply jN
    rename_i b21 b22
    refine JX.part (F':=[(21,.pointer (some ⟨b21,0,none⟩)),(18,.pointer (some ⟨b18,0,none⟩)),(17,.pointer (some ⟨b17,0,none⟩)),(16,.pointer (some ⟨b16,0,none⟩)),(2,nv i),(3,nv k),(4,.func (.func fR) #[.pointer (some ⟨b,0,none⟩)] #[])]) (H':=[(b21,.cells (wc (y / g)) 35),(b18,.cells (wc (x / g)) 35),(b17,.cells (wc t) 35),(b16,.cells (wc s) 35)]++(bF b W m n T++[])) aF QK ?_
    apply QE
    repeat' first|apply jS
    refine Z7 [(b21,.cells (wc (y / g)) 35),(b18,.cells (wc (x / g)) 35),(b17,.cells (wc t) 35),(b16,.cells (wc s) 35)] Qy ?_
    repeat' first|refine Q1 ?_|refine Q7 ?_|fail
    refine Q5 aA rfl aH rfl (fun w _ _=>Q8c w _ (y / g) (K+1) (Qi hyg) oq) fun w v w' _ _ _ hR=>?_
    subst hR
    skip
    refine ZP (l:=[(0,Wv s),(1,Wv t),(2,Wv (-(y / g))),(3,Wv (x / g))]) (cs:=iq ⟨s,t,-(y / g),x / g⟩) rfl rfl rfl (by kernel_rfl) ?_
    skip
    refine Q4k (A:=[_,_,_,_]) (N:=bF b W m n T) (B:=[]) (R:=fun w _ w'=>jJ b W m n T (op ⟨s,t,-(y / g),x / g⟩) w w') rfl Qy rfl aH rfl rfl (fun w _ hs=>?_) (fun w1 v1 w2 _ _ _ hR=>?_)
    ·have h:=hcall ⟨s,t,-(y / g),x / g⟩ w hbd (HSub.bU (by rw[Vj];exact Qr (HSub.refl _)) hs)
     exact QN h fun v w' h=>⟨h.1,h⟩
    ·obtain⟨_,T',hkk,hin,hW',hV'⟩:=hR
     refine⟨bF b W m n T',hkk,hin,?_⟩
     repeat' first|apply jS|apply jO|apply jN|apply jT|refine Q0 ?_|apply jR
     exact Qn rfl (fun a w' st=>⟨st.kp,by rw[e];exact⟨rfl,st.kp,T',hkk,fun p hp=>st.hs.blk p (List.mem_append_right _ (List.mem_append_left _ hp)),hW',hV'⟩⟩)
  | false =>
   have hx0:=hz2 rfl
   apply QE
   repeat' first|apply jS|apply jO|apply jN|apply jT|refine Q1 ?_|refine Q7 ?_|refine QC (h:=?_)|refine Q4 rfl ?_|refine QU (h:=?_)|apply jK
   have hnd:¬(x≠0∧y % x=0):=fun h=>h.1 hx0
   obtain⟨g,s,t,hgst⟩:∃ g s t,dB x y=(g,s,t):=⟨_,_,_,rfl⟩
   have hG:GcdP x y g s t:=by have:=Q50 x y;rw[hgst]at this;exact this
   have hg0:g≠0:=by
    have h1:=hG.e
    have h2:0<Int.gcd x y:=Int.gcd_pos_of_ne_zero_right _ hy0
    omega
   have e:Z5 x y=some (⟨s,t,-(y / g),x / g⟩,true):=by unfold Z5;rw[if_neg hy0,if_neg hnd,hgst]
   have hbd:=Q5b e hx hy
   have hgb:g.natAbs<256 ^ (K+1):=by
    have:=(Qaz hG hx hy).1
    have:=bG K
    rw[Va];omega
   have hyg:(y / g).natAbs<256 ^ (K+1):=by have h1:=ZR y g;exact Y6 oq (Nat.le_succ K)
   refine Q5 aA rfl aH rfl (fun w _ _=>Qsn w _ _ x y K (Qi hx) (Qi hy) oq) fun w v w' _ _ _ hR=>?_
   obtain⟨g',s',t',rfl,hG'⟩:=hR
   obtain⟨rfl,rfl,rfl⟩:=hG.unique hG'
   repeat' first|refine Q1 ?_|refine Qv (h:=?_)|refine Q2 ?_|refine Qc fun _=>?_|refine Q2 ?_|apply jN
   rename_i b15 b16 b17
   refine JX.part (F':=[(17,.pointer (some ⟨b17,0,none⟩)),(16,.pointer (some ⟨b16,0,none⟩)),(15,.pointer (some ⟨b15,0,none⟩)),(6,.pointer (some ⟨b6,0,none⟩)),(5,.pointer (some ⟨b5,0,none⟩)),(2,nv i),(3,nv k),(4,.func (.func fR) #[.pointer (some ⟨b,0,none⟩)] #[])]) (H':=[(b17,.cells (wc t) 35),(b16,.cells (wc s) 35),(b15,.cells (wc g) 35),(b6,.cells (wc y) 35),(b5,.cells (wc x) 35)]++(bF b W m n T++[])) aF QK ?_
   apply QE
   repeat' first|apply jS|refine Q7 ?_|apply jO
   refine Q5 aA rfl aH rfl (fun w _ _=>Q3b w _ _ x g (K+1) (Qi (Y6 hx (Nat.le_succ K))) (Qi hgb) oq) fun w v w' _ _ _ hR=>?_
   rw[if_neg hg0]at hR
   subst hR
   repeat' first|refine Q1 ?_|refine Q0 ?_|refine Qv (h:=?_)|refine Q2 ?_|refine Qc fun _=>?_|refine Q2 ?_|apply jN
   rename_i b18 b19
   refine JX.part (F':=[(18,.pointer (some ⟨b18,0,none⟩)),(17,.pointer (some ⟨b17,0,none⟩)),(16,.pointer (some ⟨b16,0,none⟩)),(15,.pointer (some ⟨b15,0,none⟩)),(6,.pointer (some ⟨b6,0,none⟩)),(2,nv i),(3,nv k),(4,.func (.func fR) #[.pointer (some ⟨b,0,none⟩)] #[])]) (H':=[(b18,.cells (wc (x / g)) 35),(b17,.cells (wc t) 35),(b16,.cells (wc s) 35),(b15,.cells (wc g) 35),(b6,.cells (wc y) 35)]++(bF b W m n T++[])) aF QK ?_
   apply QE
   repeat' first|apply jS|refine Q7 ?_|apply jO
   refine Q5 aA rfl aH rfl (fun w _ _=>Q3b w _ _ y g (K+1) (Qi (Y6 hy (Nat.le_succ K))) (Qi hgb) oq) fun w v w' _ _ _ hR=>?_
   rw[if_neg hg0]at hR
   subst hR
   repeat' first|refine Q1 ?_|refine Q0 ?_|refine Qv (h:=?_)|refine Q2 ?_|refine Qc fun _=>?_|refine Q2 ?_|apply jN
   rename_i b21 b22
   refine JX.part (F':=[(21,.pointer (some ⟨b21,0,none⟩)),(18,.pointer (some ⟨b18,0,none⟩)),(17,.pointer (some ⟨b17,0,none⟩)),(16,.pointer (some ⟨b16,0,none⟩)),(2,nv i),(3,nv k),(4,.func (.func fR) #[.pointer (some ⟨b,0,none⟩)] #[])]) (H':=[(b21,.cells (wc (y / g)) 35),(b18,.cells (wc (x / g)) 35),(b17,.cells (wc t) 35),(b16,.cells (wc s) 35)]++(bF b W m n T++[])) aF QK ?_
   apply QE
   repeat' first|apply jS
   refine Z7 [(b21,.cells (wc (y / g)) 35),(b18,.cells (wc (x / g)) 35),(b17,.cells (wc t) 35),(b16,.cells (wc s) 35)] Qy ?_
   repeat' first|refine Q1 ?_|refine Q7 ?_|fail
   refine Q5 aA rfl aH rfl (fun w _ _=>Q8c w _ (y / g) (K+1) (Qi hyg) oq) fun w v w' _ _ _ hR=>?_
   subst hR
   skip
   refine ZP (l:=[(0,Wv s),(1,Wv t),(2,Wv (-(y / g))),(3,Wv (x / g))]) (cs:=iq ⟨s,t,-(y / g),x / g⟩) rfl rfl rfl (by kernel_rfl) ?_
   skip
   refine Q4k (A:=[_,_,_,_]) (N:=bF b W m n T) (B:=[]) (R:=fun w _ w'=>jJ b W m n T (op ⟨s,t,-(y / g),x / g⟩) w w') rfl Qy rfl aH rfl rfl (fun w _ hs=>?_) (fun w1 v1 w2 _ _ _ hR=>?_)
   ·have h:=hcall ⟨s,t,-(y / g),x / g⟩ w hbd (HSub.bU (by rw[Vj];exact Qr (HSub.refl _)) hs)
    exact QN h fun v w' h=>⟨h.1,h⟩
   ·obtain⟨_,T',hkk,hin,hW',hV'⟩:=hR
    refine⟨bF b W m n T',hkk,hin,?_⟩
    repeat' first|apply jS|apply jO|apply jN|apply jT|refine Q0 ?_|apply jR
    exact Qn rfl (fun a w' st=>⟨st.kp,by rw[e];exact⟨rfl,st.kp,T',hkk,fun p hp=>st.hs.blk p (List.mem_append_right _ (List.mem_append_left _ hp)),hW',hV'⟩⟩)


section
variable {P:Program} {ops:Array Oper}

theorem Qf0 {j k:Nat} (h:waits ops j k=true):∃ o e,ops[j]?=some o∧e∈o.after∧Region.binds .any e=true∧e.on=k:=by
 unfold waits at h
 split at h
 ·rename_i o ho
  obtain⟨e,he,hb⟩:=Array.any_eq_true'.1 h
  simp only[Bool.and_eq_true,beq_iff_eq]at hb
  exact⟨o,e,ho,he,hb.1,hb.2⟩
 ·cases h
theorem Q5y {j k:Nat} {listed:Array Bool} (hj:j∈Region.ready .any ops listed) (h:waits ops j k=true):listed.getD k false=true:=by
 obtain⟨_,oj,hoj,hall⟩:=mem_ready.1 hj
 obtain⟨o,e,ho,he,hb,rfl⟩:=Qf0 h
 rw[hoj]at ho
 cases ho
 exact hall e he hb

theorem Q68 {i k j:Nat} (hki:waits ops k i=true) (hjk:waits ops j k=true):∀ (f:Nat) (listed:Array Bool) (l:List Nat),(listed.getD k false=true→listed.getD i false=true)→jy ops f listed l→jy (edge ops i j) f listed l
 | 0,_,_,_,h=>h
 | f + 1, listed, l, hi, h => by
  rcases h with ⟨h1,rfl⟩|⟨x,l',hx,rfl,h⟩
  ·refine .inl ⟨?_,rfl⟩
   cases hq:Region.ready .any (edge ops i j) listed with
   | nil=>rfl
   | cons y ys =>
    have:=(Yt.1 (show y∈Region.ready .any (edge ops i j) listed by rw[hq];simp)).1
    rw[h1]at this;cases this
  ·refine .inr ⟨x,l',Yt.2 ⟨hx,fun e=>?_⟩,rfl,Q68 hki hjk f _ l' (fun hk=>?_) h⟩
   ·subst e;exact hi (Q5y hx hjk)
   ·by_cases e:x=k
    ·subst e;exact Q2d (Q5y hx hki)
    ·refine Q2d (hi ?_)
     simpa [e] using hk

def chain (ops:Array Oper):List (Nat × Nat × Nat)→Array Oper
 | []=>ops
 | (i,_,j)::r=>chain (edge ops i j) r
def Q87 (ops:Array Oper):List (Nat × Nat × Nat)→Bool
 | []=>true
 | (i,k,j)::r=>waits ops k i && (waits ops j k && Q87 (edge ops i j) r)
theorem Q6n:∀ (L:List (Nat × Nat × Nat)) (ops:Array Oper),(chain ops L).size=ops.size
 | [],_=>rfl
 | (i,_,j)::r,ops=>by
  show (chain (edge ops i j) r).size=_
  rw[Q6n r,Q9l]
theorem Q4p:∀ (L:List (Nat × Nat × Nat)) (ops:Array Oper),Q87 ops L=true→∀ (f n:Nat) (l:List Nat),jy ops f (Array.replicate n false) l→jy (chain ops L) f (Array.replicate n false) l
 | [],_,_,_,_,_,h=>h
 | (i,k,j)::r,ops,hc,f,n,l,h=>by
  simp only[Q87,Bool.and_eq_true]at hc
  refine Q4p r _ hc.2.2 f n l (Q68 hc.1 hc.2.1 f _ l (fun hk=>?_) h)
  exfalso
  by_cases hlt:k<n<;>simp[hlt]at hk
theorem Q3x {Q:Exit→Act→World→Prop}:∀ (L:List (Nat × Nat × Nat)) (ops:Array Oper) (l:List Nat) (a:Act) (w:World),wpOps P (chain ops L) Q l a w→wpOps P ops Q l a w
 | [],_,_,_,_,h=>h
 | (i,_,j)::r,ops,l,a,w,h=>X9 l a w (Q3x r (edge ops i j) l a w h)
theorem Q2s {kd:Nat→Op→Kind} {tail:Nat}:∀ (L:List (Nat × Nat × Nat)) (ops:Array Oper) (l:List Nat),Qg kd (chain ops L) tail l=Qg kd ops tail l
 | [],_,_=>rfl
 | (i,_,j)::r,ops,l=>by
  show Qg kd (chain (edge ops i j) r) tail l=_
  rw[Q2s r,Xh]
end

theorem Qdz {c:Cx} {Q:Exit→Act→World→Prop} {F:ak} {H:aj} {id:Nat} {ops:Array Oper} (Hs:aj) (iD:HSub Hs H) (L:List (Nat × Nat × Nat)) (kd:Nat→Op→Kind) (t:Nat) (o:List Nat) (hm:c.P.follows .mixedOrders=true)
  (hL:Q87 ops L=true) (hB:XT c.P kd (chain ops L) o t=true) (h:JO c Q (.draw Hs true) (Qg kd ops t o) F H):JC c Q (.raw (.region id ops true)) F H:=⟨fun a w st=>by
 show (Code.region id ops true).wp c.P Q a w
 refine wp_mono ?_ (fun e a w h=>Only.up e a w h)
 have a1:=WF (Q:=Q) hB st (iD.bU st.hs) (by rw[Q2s];exact h.h)
 rw[Q6n]at a1
 refine wp_region_draw fun t=>?_
 simp only[Region.schedule,hm,Bool.true_or,if_true]
 have h:=Q4p L ops hL _ _ _ (Qar (ops:=ops) ops.size t (Array.replicate ops.size false))
 obtain⟨t',ht⟩:=Q7r _ _ _ h
 have:=wpAny_sound ops.size t' _ a _ a1
 rw[ht]at this
 exact Q3x L _ _ _ _ this⟩


theorem BdT.up {K:Nat} {t:Tn} (h:BdT K t):BdT (K+1) t:=⟨Y6 h.a (Nat.le_succ K),Y6 h.b (Nat.le_succ K),Y6 h.c (Nat.le_succ K),Y6 h.d (Nat.le_succ K)⟩
theorem Q97 {K:Nat} {g:List (List Int)} (h:jk K g=true):jk (K+1) g=true:=by
 unfold jk at h ⊢
 exact List.all_eq_true.2 fun r hr=>List.all_eq_true.2 fun x hx=>decide_eq_true (Y6 (of_decide_eq_true (List.all_eq_true.1 (List.all_eq_true.1 h r hr) x hx)) (Nat.le_succ K))
theorem Ok.up {K:Nat} {S:Sm} (h:Ok K S):Ok (K+1) S:=⟨Q97 h.u,Q97 h.ui,Q97 h.d,Q97 h.v,Q97 h.vi⟩
theorem jJ.of {b:Nat} {W:WV} {m n:Nat} {T T1:WT} {S2:Sm} {w w':World} (h:jJ b W m n T1 S2 w w') (hV:bK T T1):∃ T2,keys (bF b W m n T2)=keys (bF b W m n T1)∧InW (bF b W m n T2) w'∧dw W m n T2 S2∧bK T T2:=by
 obtain⟨_,T2,h1,h2,h3,h4⟩:=h
 exact⟨T2,h1,h2,h3,⟨fun a=>by rw[h4.u,hV.u],fun a=>by rw[h4.ui,hV.ui],fun a=>by rw[h4.d,hV.d],fun a=>by rw[h4.v,hV.v],fun a=>by rw[h4.vi,hV.vi]⟩⟩
theorem Qph {K t i:Nat} {S:Sm} {r:Sm × Bool} {b:Nat} {W:WV} {m n:Nat} {T:WT} {v:Value} {w w':World} (h:gQ K t i S=some r) (hb:Ok K S) (hR:ClrR b W m n T S (fun tn=>S.rows t i tn) (Z5 (gE S.d t t) (gE S.d i t)) v w w'):v=.bool r.2∧jJ b W m n T r.1 w w'∧Ok K r.1:=by
 unfold gQ at h
 cases hc:Z5 (gE S.d t t) (gE S.d i t)with
 | none =>
  rw[hc]at h hR
  cases h
  exact⟨hR.1,hR.2,hb⟩
 | some p =>
  obtain⟨tn,ch⟩:=p
  rw[hc]at h hR
  dsimp only at h
  cases hk:ck K (S.rows t i tn)with
  | none=>rw[hk]at h;cases h
  | some S' =>
   rw[hk]at h
   obtain⟨rfl,hok⟩:=Zl hk
   cases h
   exact⟨hR.1,hR.2,hok⟩
theorem Qpj {K t i:Nat} {S:Sm} {r:Sm × Bool} {b:Nat} {W:WV} {m n:Nat} {T:WT} {v:Value} {w w':World} (h:gU K t i S=some r) (hb:Ok K S) (hR:ClrR b W m n T S (fun tn=>S.cols t i tn) (Z5 (gE S.d t t) (gE S.d t i)) v w w'):v=.bool r.2∧jJ b W m n T r.1 w w'∧Ok K r.1:=by
 unfold gU at h
 cases hc:Z5 (gE S.d t t) (gE S.d t i)with
 | none =>
  rw[hc]at h hR
  cases h
  exact⟨hR.1,hR.2,hb⟩
 | some p =>
  obtain⟨tn,ch⟩:=p
  rw[hc]at h hR
  dsimp only at h
  cases hk:ck K (S.cols t i tn)with
  | none=>rw[hk]at h;cases h
  | some S' =>
   rw[hk]at h
   obtain⟨rfl,hok⟩:=Zl hk
   cases h
   exact⟨hR.1,hR.2,hok⟩
theorem Q18 {K t k i:Nat} {S S':Sm} (h:rowP K t (k+1) i S=some S'):∃ r,gQ K t i S=some r∧rowP K t k (i+1) r.1=some S':=by
 rw[rowP]at h
 cases hc:gQ K t i S with
 | none=>rw[hc]at h;cases h
 | some r=>rw[hc]at h;exact⟨r,rfl,h⟩
theorem Q1t {K t k j:Nat} {ch:Bool} {S:Sm} {q:Sm × Bool} (h:dP K t (k+1) j ch S=some q):∃ r,gU K t j S=some r∧dP K t k (j+1) (ch || r.2) r.1=some q:=by
 rw[dP]at h
 cases hc:gU K t j S with
 | none=>rw[hc]at h;cases h
 | some r=>rw[hc]at h;exact⟨r,rfl,h⟩
theorem Wo {K t m n f:Nat} {S S':Sm} (h:ZG K t m n (f+1) S=some S'):∃ S1 S2 ch,rowP K t (m-(t+1)) (t+1) S=some S1∧dP K t (n-(t+1)) (t+1) false S1=some (S2,ch)∧(ch=true→ZG K t m n f S2=some S')∧(ch=false→S2=S'):=by
 rw[ZG]at h
 cases h1:rowP K t (m-(t+1)) (t+1) S with
 | none=>rw[h1]at h;cases h
 | some S1 =>
  rw[h1]at h
  dsimp only at h
  cases h2:dP K t (n-(t+1)) (t+1) false S1 with
  | none=>rw[h2]at h;cases h
  | some r =>
   obtain⟨S2,ch⟩:=r
   rw[h2]at h
   dsimp only at h
   refine⟨S1,S2,ch,rfl,h2,fun hc=>?_,fun hc=>?_⟩
   ·rw[hc]at h;exact h
   ·rw[hc]at h;exact Option.some.inj h

theorem Qpv (K fc:Nat) (w:World) (b:Nat) (W:WV) (m n:Nat) (T:WT) (S S':Sm) (t:Nat) (hW:dw W m n T S) (hs:aI (bF b W m n T) w) (gB:t<m) (htn:t<n) (hm:m≤200) (hn:n≤200)
  (hK:K≤13400000000000) (hb:Ok K S) (hc:ZG K t m n fc S=some S') :
  Calls Tryz.prog 93 #[.pointer (some ⟨b,0,none⟩),nv t] w (aP fun _ w'=>jJ b W m n T S' w w'):=by
 have hM:=Zk hs
 have hS0:=bK.refl T
 refine Q6o [6,10] [] (keys (bF b W m n T)) hM (bF b W m n T) Tryz.func93 rfl mixed (by kernel_rfl) Tryz.ntmps93 Tryz.results93 rfl hs (fun p hp=>List.mem_map.2 ⟨p,hp,rfl⟩) ?_
 simp only[toR,inR,cond_true,cond_false,Nat.reduceBEq,toS,Qd,Qt,Qk,Ql,ay,Qg,QA,aC]
 repeat' first|apply jS|apply jO|apply jN|apply jT|refine Q0 ?_|apply jB
 refine Qp (ι:=Nat × Bool × Sm × WT) ⟨fun z=>[(4,.bool z.2.1),(0,.pointer (some ⟨b,0,none⟩)),(1,nv t)],fun z=>bF b W m n z.2.2.2,
  fun z=>dw W m n z.2.2.2 z.2.2.1∧bK T z.2.2.2∧Ok K z.2.2.1∧(z.2.1=true→ZG K t m n z.1 z.2.2.1=some S')∧(z.2.1=false→z.2.2.1=S'),fun z=>if z.2.1=true then z.1 else 0⟩ (fc,true,S,T)
  ⟨hW,hS0,hb,fun _=>hc,fun h=>by cases h⟩ aF (HSub.refl _) (fun z hz=>?_)
 obtain⟨f,ch,S1,T1⟩:=z
 obtain⟨hW1,hV1,hb1,hc1,hc2⟩:=hz
 dsimp only at hW1 hV1 hb1 hc1 hc2 ⊢
 cases ch with
 | false =>
  obtain rfl:=hc2 rfl
  repeat' first|apply jS|apply jO|apply jN|apply jT|refine Q1 ?_|apply jU|apply jE|refine Q4 rfl ?_|apply Qe
  exact Yq (fun a w'' st=>⟨st.kp,T1,Xr hW hW1 hV1,fun p hp=>st.hs.blk p hp,hW1,hV1⟩)
 | true =>
  have hc1:=hc1 rfl
  cases f with
  | zero=>cases hc1
  | succ f =>
  obtain⟨Sr,Sc,fl,hr,hcl,hf1,hf2⟩:=Wo hc1
  repeat' first|apply jS|apply jO|apply jN|apply jT|refine Q1 ?_|refine Q0 ?_|refine Qj ?_|apply jK|refine Q8 rfl ?_|apply jB
  clear hc1 hc2
  refine Qp (ι:=Nat × Sm × WT) ⟨fun z=>[(5,nv z.1),(4,.bool false),(0,.pointer (some ⟨b,0,none⟩)),(1,nv t)],fun z=>bF b W m n z.2.2,
   fun z=>t+1≤z.1∧z.1≤m∧dw W m n z.2.2 z.2.1∧bK T z.2.2∧Ok K z.2.1∧rowP K t (m-z.1) z.1 z.2.1=some Sr,fun z=>m-z.1⟩ (t+1,S1,T1)
   ⟨by omega,by omega,hW1,hV1,hb1,hr⟩ aF (HSub.refl _) (fun z hz=>?_)
  clear hr hb1 hV1 hW1
  obtain⟨i,S1,T1⟩:=z
  obtain⟨hti,him,hW1,hV1,hb1,hr⟩:=hz
  dsimp only at hti him hW1 hV1 hb1 hr ⊢
  have hld:=hW1.d.len
  have hT1:=hW1.d.T
  have hVr:∀ a,tv T1.d a=tv T1.d a:=fun _=>rfl
  refine JC.part (F':=[(5,nv i),(4,.bool false),(0,.pointer (some ⟨b,0,none⟩)),(1,nv t)]) (H':=(b,.cells (W.cells m n) 110)::(W.Nu++(tH T1.u++(W.fB++(tH T1.ui++(W.Nd++(tH T1.d++(W.Nv++(tH T1.v++(W.fG++(tH T1.vi++[]))))))))))) aF (HSub.refl _) ?_
  repeat' first|apply jS|refine Q1 ?_|refine Q3 ?_|refine Qz (h:=?_)|apply jO
  refine WL (j:=0) rfl rfl rfl rfl oq ?_
  by_cases hlt:i<m
  ·obtain⟨r,hr1,hr2⟩:=Q18 (show rowP K t (m-(i+1)+1) i S1=some Sr by rw[show m-(i+1)+1=m-i by omega];exact hr)
   repeat' first|apply jS|apply jN|apply jT|refine Qb ?_|(refine Qs (h1:=?_) (h2:=?_)<;>intro hc<;>try omega)|apply jK|refine Q8 rfl ?_|apply jB
   refine Qdz ((b,.cells (W.cells m n) 110)::(W.Nu++(tH T1.u++(W.fB++(tH T1.ui++(W.Nd++(tH T1.d++(W.Nv++(tH T1.v++(W.fG++(tH T1.vi++[]))))))))))) (HSub.refl _) [(4,6,7),(4,7,9),(4,9,10),(4,10,26),(7,9,10),(7,10,26),(15,17,18),(15,18,20),(15,20,21),(15,21,26),(18,20,21),(18,21,26)] (fun i op=>Qk [] i op) 1 [0,1,2,3,4,5,6,7,8,9,10,11,12,13,14,15,16,17,18,19,20,21,22,23,24,25,26] mixed (by kernel_rfl) (by kernel_rfl) ?_
   repeat' first|refine Q1 ?_|refine Q3 ?_|refine Qb ?_|refine QW (h:=?_)|refine Zo (h:=?_)|refine Y2 (h:=?_)|refine Yc (h:=?_)|refine Qz (h:=?_)|refine XO (h:=?_)|fail
   refine Z2 (A:=[]) (N:=bF b W m n T1) (B:=[]) (R:=fun w v w'=>ClrR b W m n T1 S1 (fun tn=>S1.rows t i tn) (Z5 (gE S1.d t t) (gE S1.d i t)) v w w') (by simp only[bF,Vv,Vj]) aA rfl aH rfl (fun w _ hs=>?_) (fun w1 v1 w2 _ _ hk2 hR=>?_)
   ·have hs1:aI (bF b W m n T1) w:=hs
    have h:=Qix (fR:=95) K w b W m n T1 S1 t i (gE S1.d t t) (gE S1.d i t) (fun tn=>S1.rows t i tn) hW1 hs1 hK (Zp hb1.d _ _) (Zp hb1.d _ _)
     (fun tn w' htn' hs2=>Qb6 (K+1) w' b W m n T1 S1 t i tn hW1 hs2 oq oq oq hm hn oq htn' hb1.up)
    rw[← hW1.d.at, ← hW1.d.at]at h
    rw[← hW1.d.at, ← hW1.d.at]
    exact h
   ·obtain⟨hv,hwk,hok⟩:=Qph hr1 hb1 hR
    obtain⟨T2,hk2,hin2,hW2,hV2⟩:=hwk.of hV1
    refine⟨bF b W m n T2,hk2,hin2,?_⟩
    repeat' first|apply jO|apply jN|apply jT|refine Q1 ?_|refine Q0 ?_|refine Qj ?_|apply jW
    exact Qa (i+1,r.1,T2) ⟨by dsimp only;omega,by dsimp only;omega,hW2,hV2,hok,by dsimp only;rw[show m-(i+1)=m-(i+1) from rfl];exact hr2⟩ aY aF (by simpa using HSub.refl _)
  ·repeat' first|apply jS|apply jO|apply jN|apply jT|refine Q1 ?_|refine Q0 ?_|refine Qb ?_|refine Qj ?_|(refine Qs (h1:=?_) (h2:=?_)<;>intro hc<;>try omega)|apply jU|apply jE|refine Q4 rfl ?_|apply jB|apply Qe
   obtain rfl:m=i:=by omega
   rw[Nat.sub_self,rowP]at hr
   obtain rfl:=Option.some.inj hr
   clear hr
   refine Qp (ι:=Nat × Bool × Sm × WT) ⟨fun z=>[(6,nv z.1),(4,.bool z.2.1),(0,.pointer (some ⟨b,0,none⟩)),(1,nv t)],fun z=>bF b W m n z.2.2.2,
    fun z=>t+1≤z.1∧z.1≤n∧dw W m n z.2.2.2 z.2.2.1∧bK T z.2.2.2∧Ok K z.2.2.1∧dP K t (n-z.1) z.1 z.2.1 z.2.2.1=some (Sc,fl),fun z=>n-z.1⟩ (t+1,false,S1,T1)
    ⟨by omega,by omega,hW1,hV1,hb1,hcl⟩ aF (by simpa [bF] using HSub.refl _) (fun z hz=>?_)
   clear hcl hb1 hV1 hW1 hT1 hVr hld
   obtain⟨j,ch,S1,T1⟩:=z
   obtain⟨htj,hjn,hW1,hV1,hb1,hcl⟩:=hz
   dsimp only at htj hjn hW1 hV1 hb1 hcl ⊢
   have hld:=hW1.d.len
   have hT1:=hW1.d.T
   have hVr:∀ a,tv T1.d a=tv T1.d a:=fun _=>rfl
   refine JC.part (F':=[(6,nv j),(4,.bool ch),(0,.pointer (some ⟨b,0,none⟩)),(1,nv t)]) (H':=(b,.cells (W.cells m n) 110)::(W.Nu++(tH T1.u++(W.fB++(tH T1.ui++(W.Nd++(tH T1.d++(W.Nv++(tH T1.v++(W.fG++(tH T1.vi++[]))))))))))) aF (HSub.refl _) ?_
   repeat' first|apply jS|refine Q1 ?_|refine Q3 ?_|refine Qz (h:=?_)|apply jO
   refine WL (j:=1) rfl rfl rfl rfl oq ?_
   by_cases hlt:j<n
   ·obtain⟨⟨r,rch⟩,hr1,hr2⟩:=Q1t (show dP K t (n-(j+1)+1) j ch S1=some (Sc,fl) by rw[show n-(j+1)+1=n-j by omega];exact hcl)
    repeat' first|apply jS|apply jN|apply jT|refine Qb ?_|(refine Qs (h1:=?_) (h2:=?_)<;>intro hc<;>try omega)|apply jK|refine Q8 rfl ?_|apply jB
    refine Qdz ((b,.cells (W.cells m n) 110)::(W.Nu++(tH T1.u++(W.fB++(tH T1.ui++(W.Nd++(tH T1.d++(W.Nv++(tH T1.v++(W.fG++(tH T1.vi++[]))))))))))) (HSub.refl _) [(4,6,7),(4,7,9),(4,9,10),(4,10,26),(7,9,10),(7,10,26),(15,17,18),(15,18,20),(15,20,21),(15,21,26),(18,20,21),(18,21,26)] (fun i op=>Qk [] i op) 1 [0,1,2,3,4,5,6,7,8,9,10,11,12,13,14,15,16,17,18,19,20,21,22,23,24,25,26] mixed (by kernel_rfl) (by kernel_rfl) ?_
    repeat' first|refine Q1 ?_|refine Q3 ?_|refine Qb ?_|refine QW (h:=?_)|refine Zo (h:=?_)|refine Y2 (h:=?_)|refine Yc (h:=?_)|refine Qz (h:=?_)|refine XO (h:=?_)|fail
    refine Z2 (A:=[]) (N:=bF b W m n T1) (B:=[]) (R:=fun w v w'=>ClrR b W m n T1 S1 (fun tn=>S1.cols t j tn) (Z5 (gE S1.d t t) (gE S1.d t j)) v w w') (by simp only[bF,Vv,Vj]) aA rfl aH rfl (fun w _ hs=>?_) (fun w1 v1 w2 _ _ hk2 hR=>?_)
    ·have hs1:aI (bF b W m n T1) w:=hs
     have h:=Qix (fR:=129) K w b W m n T1 S1 t j (gE S1.d t t) (gE S1.d t j) (fun tn=>S1.cols t j tn) hW1 hs1 hK (Zp hb1.d _ _) (Zp hb1.d _ _)
      (fun tn w' htn' hs2=>Qb8 (K+1) w' b W m n T1 S1 t j tn hW1 hs2 oq oq oq hm hn oq htn' hb1.up)
     rw[← hW1.d.at, ← hW1.d.at]at h
     rw[← hW1.d.at, ← hW1.d.at]
     exact h
    ·obtain⟨hv,hwk,hok⟩:=Qpj hr1 hb1 hR
     obtain⟨T2,hk2,hin2,hW2,hV2⟩:=hwk.of hV1
     refine⟨bF b W m n T2,hk2,hin2,?_⟩
     dsimp only at hv hr2
     rw[hv]
     cases rch with
     | true =>
      repeat' first|apply jO|apply jN|apply jT|refine Q1 ?_|refine Q0 ?_|refine Qj ?_|refine Q8 rfl ?_|apply jW
      exact Qa (j+1,true,r,T2) ⟨by dsimp only;omega,by dsimp only;omega,hW2,hV2,hok,by simpa using hr2⟩ aY aF (by simpa using HSub.refl _)
     | false =>
      repeat' first|apply jO|apply jN|apply jT|refine Q1 ?_|refine Q0 ?_|refine Qj ?_|apply jK|refine Q4 rfl ?_|apply jW
      exact Qa (j+1,ch,r,T2) ⟨by dsimp only;omega,by dsimp only;omega,hW2,hV2,hok,by simpa using hr2⟩ aY aF (by simpa using HSub.refl _)
   ·repeat' first|apply jN|apply jT|refine Qb ?_|(refine Qs (h1:=?_) (h2:=?_)<;>intro hc<;>try omega)|apply jU|apply jE|refine Q4 rfl ?_|apply jW|apply Qe
    obtain rfl:n=j:=by omega
    rw[Nat.sub_self,dP]at hcl
    obtain⟨rfl,rfl⟩:=Prod.mk.inj (Option.some.inj hcl)
    exact Qa (f,ch,S1,T1) ⟨hW1,hV1,hb1,hf1,hf2⟩ (by dsimp only;split<;>simp) aF (by simpa [bF] using HSub.refl _)


theorem Yu {s n:Nat} (h:s<n):List.range' s (n-s)=s::List.range' (s+1) (n-(s+1)):=by
 rw[show n-s=n-(s+1)+1 by omega,List.range'_succ]
def Qeo (S:Sm) (t i j:Nat):Bool:=decide (iJ (gE S.d i j) (gE S.d t t)≠0)
def spV:Option Nat→Value
 | none=>.tuple #[iv 0,.bool false]
 | some i=>.tuple #[nv i,.bool true]

theorem Qim (K:Nat) (w:World) (b:Nat) (W:WV) (m n:Nat) (T:WT) (S:Sm) (t:Nat) (hW:dw W m n T S) (hs:aI (bF b W m n T) w) (gB:t<m) (htn:t<n) (hm:m≤200) (hn:n≤200)
  (hK:K≤13400000000000) (hb:Ok K S) :
  Calls Tryz.prog 94 #[.pointer (some ⟨b,0,none⟩),nv t] w (aP fun v w'=>jJ b W m n T S w w'∧v=spV (Z0 S t m n)):=by
 have hM:=Zk hs
 have hld:=hW.d.len
 have hT:=hW.d.T
 have hVr:∀ a,tv T.d a=tv T.d a:=fun _=>rfl
 have hres:∀ w',Kp (keys (bF b W m n T)) w w'→(∀ p∈bF b W m n T,w'.heap[p.1]?=some p.2)→jJ b W m n T S w w':=fun w' h1 h2=>⟨h1,T,rfl,h2,hW,bK.refl T⟩
 refine Q9 [⟨7,3,[],[]⟩] (keys (bF b W m n T)) hM (bF b W m n T) Tryz.func94 rfl mixed (by kernel_rfl) Tryz.ntmps94 Tryz.results94 rfl hs (fun p hp=>List.mem_map.2 ⟨p,hp,rfl⟩) ?_
 simp only[toS,Qd,Qt,Qk,Ql,ay,Qg,QA,aC]
 repeat' first|apply jS|apply jO|apply jN|apply jT|refine Q1 ?_|refine Q0 ?_|refine Qj ?_|apply jB
 refine Qp (ι:=Nat) ⟨fun z=>[(6,nv z),(4,iv 0),(5,.bool false),(0,.pointer (some ⟨b,0,none⟩)),(1,nv t)],fun _=>bF b W m n T,
  fun z=>t+1≤z∧z≤m∧Z0 S t m n=(List.range' z (m-z)).find? (X3 S t n),fun z=>m-z⟩ (t+1) ⟨by omega,by omega,rfl⟩ aF (HSub.refl _) (fun i hi=>?_)
 obtain⟨hti,him,hsp⟩:=hi
 dsimp only at hti him hsp ⊢
 unfold bF
 repeat' first|apply jS|refine Q1 ?_|refine Q3 ?_|refine Qz (h:=?_)|apply jO
 refine WL (j:=0) rfl rfl rfl rfl oq ?_
 by_cases hlt:i<m
 ·rw[Yu hlt,List.find?_cons]at hsp
  repeat' first|apply jS|apply jO|apply jN|apply jT|refine Q1 ?_|refine Q0 ?_|refine Qb ?_|refine Qj ?_|(refine Qs (h1:=?_) (h2:=?_)<;>intro hc<;>try omega)|apply jK|refine Q8 rfl ?_|apply jB
  refine Qp (ι:=Nat) ⟨fun z=>[(7,nv z),(6,nv i),(4,iv 0),(5,.bool false),(0,.pointer (some ⟨b,0,none⟩)),(1,nv t)],fun _=>bF b W m n T,
   fun z=>t+1≤z∧z≤n∧X3 S t n i=(List.range' z (n-z)).any (Qeo S t i),fun z=>n-z⟩ (t+1) ⟨by omega,by omega,rfl⟩ aF (HSub.refl _) (fun j hj=>?_)
  obtain⟨htj,hjn,hbr⟩:=hj
  dsimp only at htj hjn hbr ⊢
  unfold bF
  repeat' first|apply jS|refine Q1 ?_|refine Q3 ?_|refine Qz (h:=?_)|apply jO
  refine WL (j:=1) rfl rfl rfl rfl oq ?_
  by_cases hjt:j<n
  ·rw[Yu hjt,List.any_cons]at hbr
   have hx:(tM T.d i j).natAbs<256 ^ K:=by rw[hW.d.at];exact Zp hb.d _ _
   have hy:(tM T.d t t).natAbs<256 ^ K:=by rw[hW.d.at];exact Zp hb.d _ _
   repeat' first|apply jS|apply jD|apply jN|apply jT|refine Q1 ?_|refine Q3 ?_|refine Qb ?_|refine QW (h:=?_)|refine Zo (h:=?_)|refine Y2 (h:=?_)|refine Yc (h:=?_)|refine Qz (h:=?_)|(refine Qs (h1:=?_) (h2:=?_)<;>intro hc<;>try omega)|apply jK|refine Q8 rfl ?_|apply jB
   refine Q5 aA rfl aH rfl (fun w _ _=>Q3b w _ _ (tM T.d i j) (tM T.d t t) K (Qi hx) (Qi hy) oq) fun w v w' _ _ _ hR=>?_
   have hQ:∃ q r z,v=.tuple #[Wv q,Wv r,.bool z]∧r=iJ (gE S.d i j) (gE S.d t t)∧r.natAbs<256 ^ K:=by
    rw[← hW.d.at, ← hW.d.at]
    unfold iJ
    by_cases h0:tM T.d t t=0
    ·rw[if_pos h0]at hR;exact⟨0,0,false,hR,by rw[if_pos h0],bG K⟩
    ·rw[if_neg h0]at hR;exact⟨_,_,true,hR,by rw[if_neg h0],by have:=Int.emod_lt (tM T.d i j) h0;have:=Int.emod_nonneg (tM T.d i j) h0;omega⟩
   clear hR
   obtain⟨q,r,z,rfl,hr,hrb⟩:=hQ
   repeat' first|apply jS|apply jO|apply jN|refine Q1 ?_|refine Q0 ?_|refine Q7 ?_|refine Qv (h:=?_)|refine Q2 ?_|refine Qc fun _=>?_|refine Q2 ?_|apply jT
   refine Q5 aA rfl aH rfl (fun w _ _=>XU w _ r K (Qi hrb) oq) fun w v w' _ _ _ hR=>?_
   subst hR
   repeat' first|apply jS|apply jO|apply jN|apply jT|refine Q1 ?_|refine Q0 ?_|refine Qj ?_|(refine Ze (h1:=?_) (h2:=?_)<;>intro hc<;>try omega)|apply jV|apply jK|apply jR|refine Q8 rfl ?_|refine Q4 rfl ?_|apply jW|apply QT
   ·have h1:Qeo S t i j=true:=decide_eq_true (by rw[← hr];exact fun h=>hc (by rw[h];rfl))
    rw[h1]at hbr
    have hbr:X3 S t n i=true:=hbr
    rw[hbr]at hsp
    have hsp:Z0 S t m n=some i:=hsp
    exact YH rfl rfl (fun a w' st=>⟨hres w' st.kp (fun p hp=>st.hs.blk p (by exact Ve _ (Ve _ hp))),by rw[hsp];rfl⟩)
   ·have h1:Qeo S t i j=false:=decide_eq_false (by rw[← hr,Int.sign_eq_zero_iff_zero.1 hc];simp)
    rw[h1,Bool.false_or]at hbr
    exact Qa (j+1) ⟨by first|omega|(dsimp only;omega),by first|omega|(dsimp only;omega),hbr⟩ dgp aF (by exact HSub.skip (HSub.skip (HSub.refl _)))
  ·rw[show n-j=0 by omega]at hbr
   have hbr:X3 S t n i=false:=hbr
   rw[hbr]at hsp
   repeat' first|apply jO|apply jN|apply jT|refine Q1 ?_|refine Q0 ?_|refine Qb ?_|refine Qj ?_|(refine Qs (h1:=?_) (h2:=?_)<;>intro hc<;>try omega)|apply jU|apply jE|refine Q4 rfl ?_|apply jW|apply Qe
   exact Qa (i+1) ⟨by first|omega|(dsimp only;omega),by first|omega|(dsimp only;omega),hsp⟩ dgp aF (HSub.refl _)
 ·rw[show m-i=0 by omega]at hsp
  have hsp:Z0 S t m n=none:=hsp
  repeat' first|apply jS|apply jO|apply jN|apply jT|refine Q0 ?_|refine Qb ?_|(refine Qs (h1:=?_) (h2:=?_)<;>intro hc<;>try omega)|apply jU|apply jE|apply jR|refine Q4 rfl ?_|apply Qe
  exact YH rfl rfl (fun a w' st=>⟨hres w' st.kp st.hs.blk,by rw[hsp];rfl⟩)

theorem Q7t {r c t a b:Nat} {g:List (List Int)} (h:Rec r c g) (ht:t<r) (hb:b<c):gE (negR t g) a b=if a=t then -(gE g a b) else gE g a b:=by
 have h1:=h.at ht
 unfold gE negR
 rw[WC (by rw[h.len];exact ht)]
 by_cases e:a=t
 ·subst e
  rw[if_pos rfl,if_pos rfl]
  generalize g.getD a []=l at h1
  simp[List.getD,List.getElem?_eq_getElem (show b<l.length by omega)]
 ·rw[if_neg e,if_neg e]
theorem Qhn {r c t a b:Nat} {g:List (List Int)} (h:Rec r c g) (ht:t<c) (ha:a<r):gE (negC t g) a b=if b=t then -(gE g a b) else gE g a b:=by
 have h1:=h.at ha
 have hl:=h.len
 have e:(negC t g).getD a []=(g.getD a []).set t (-((g.getD a []).getD t 0)):=by
  unfold negC
  rw[List.getD,List.getElem?_map,List.getD,List.getElem?_eq_getElem (show a<g.length by omega)]
  rfl
 unfold gE
 rw[e,WC oq]
 by_cases e1:b=t
 ·subst e1;rw[if_pos rfl]
 ·rw[if_neg e1,if_neg e1]
theorem Rec.negR {r c t:Nat} {g:List (List Int)} (h:Rec r c g) (ht:t<r):Rec r c (negR t g):=h.set (by rw[List.length_map];exact h.at ht)
theorem Rec.negC {r c t:Nat} {g:List (List Int)} (h:Rec r c g):Rec r c (negC t g) :=
 ⟨by unfold Go.Proofs.YtljmapfihjkafaaGreatDoor.negC; rw [List.length_map, h.len], fun x hx => by
  unfold Go.Proofs.YtljmapfihjkafaaGreatDoor.negC at hx
  obtain⟨y,hy,rfl⟩:=List.mem_map.1 hx
  rw[List.length_set];exact h.row y hy⟩


theorem Q1i {K:Nat} {N:aj} {v:Value} {r c:Nat} {ts:List TR} {g:List (List Int)} (h:fM N v r c ts g) (hb:jk K g=true) (a b:Nat):(tM ts a b).natAbs<256 ^ K:=by rw[h.at];exact Zp hb a b

theorem Qlf (K:Nat) (w:World) (b:Nat) (W:WV) (m n:Nat) (T:WT) (S:Sm) (t:Nat) (hW:dw W m n T S) (hs:aI (bF b W m n T) w) (gB:t<m) (hm:m≤200) (hn:n≤200)
  (hK:K≤13400000000000) (hb:Ok K S) :
  Calls Tryz.prog 96 #[.pointer (some ⟨b,0,none⟩),nv t] w (aP fun _ w'=>jJ b W m n T (S.neg t) w w'):=by
 have hM:=Zk hs
 have hld:=hW.d.len
 have hlu:=hW.u.len
 have hlui:=hW.ui.len
 have hTd:=hW.d.T
 have jL:=hW.u.T
 have jm:=hW.ui.T
 have hVd:∀ a,tv T.d a=tv T.d a:=fun _=>rfl
 have hVu:∀ a,tv T.u a=tv T.u a:=fun _=>rfl
 have jo:∀ a,tv T.ui a=tv T.ui a:=fun _=>rfl
 refine Q9 [⟨3,2,[],[]⟩,⟨8,2,[],[]⟩,⟨9,2,[],[]⟩] (keys (bF b W m n T)) hM (bF b W m n T) Tryz.func96 rfl mixed (by kernel_rfl) Tryz.ntmps96 Tryz.results96 rfl hs (fun p hp=>List.mem_map.2 ⟨p,hp,rfl⟩) ?_
 simp only[toS,Qd,Qt,Qk,Ql,ay,Qg,QA,aC]
 unfold bF
 repeat' first|apply jS|apply jO|apply jN|apply jT|refine Q1 ?_|refine Q3 ?_|refine Qb ?_|refine Ym (h:=?_)|refine Zo (h:=?_)|refine Yc (h:=?_)|refine Qz (h:=?_)|apply jB
 refine Qp (ι:=Nat × List TR) ⟨fun z=>[(15,nv z.1),(14,nv n),(0,.pointer (some ⟨b,0,none⟩)),(1,nv t)],fun z=>(b,.cells (W.cells m n) 110)::(W.Nu++(tH T.u++(W.fB++(tH T.ui++(W.Nd++(tH z.2++(W.Nv++(tH T.v++(W.fG++(tH T.vi++[])))))))))),
  fun z=>z.1≤n∧bY W.Nd W.d n z.2∧z.2.length=m∧(∀ a,tv z.2 a=tv T.d a)∧∀ a c,tM z.2 a c=if a=t∧c<z.1 then -(tM T.d a c) else tM T.d a c,fun z=>n-z.1⟩ (0,T.d)
  ⟨by omega,hTd,hld,hVd,fun a c=>by rw[if_neg oq]⟩ aF (HSub.refl _) (fun z hz=>?_)
 clear hTd hVd
 obtain⟨c,d1⟩:=z
 obtain⟨hcn,hTd,hld1,hVd,hMd⟩:=hz
 dsimp only at hcn hTd hld1 hVd hMd ⊢
 by_cases hlt:c<n
 ·have e1:tM d1 t c=tM T.d t c:=by rw[hMd,if_neg oq]
  repeat' first|apply jS|apply jO|apply jD|apply jN|apply jT|refine Q1 ?_|refine Q3 ?_|refine Q0 ?_|refine Qb ?_|refine QW (h:=?_)|refine Zo (h:=?_)|refine Y2 (h:=?_)|refine Yc (h:=?_)|refine Qz (h:=?_)|(refine Qs (h1:=?_) (h2:=?_)<;>intro hc<;>try omega)|apply jK|refine Q8 rfl ?_|apply jB
  refine Q5 aA rfl aH rfl (fun w _ _=>Q8c w _ (tM d1 t c) K (Qi (by rw[e1];exact Q1i hW.d hb.d t c)) oq) fun w v w' _ _ _ hR=>?_
  rw[e1]at hR
  subst hR
  repeat' first|refine QW (h:=?_)|fail
  refine Wr (A:=(b,.cells (W.cells m n) 110)::(W.Nu++(tH T.u++(W.fB++tH T.ui)))) (B:=W.Nv++(tH T.v++(W.fG++(tH T.vi++[])))) (i:=t) (j:=c) (V:=tv T.d) (u := -(tM T.d t c)) hVd hTd (by simp only[Vi,Vv,Vd]) rfl aA rfl rfl oq hlt (fun d2 hT2 hl2 hV2 hM2=>?_)
  simp only[Vi,Vv,Vd]
  repeat' first|apply jO|apply jN|apply jT|refine Q1 ?_|refine Qj ?_|apply jW
  refine Qa (c+1,d2) ⟨by dsimp only;omega,hT2,by dsimp only;omega,hV2,fun a x=>?_⟩ aY aF (HSub.refl _)
  dsimp only
  rw[hM2,hMd]
  by_cases h1:a=t∧x=c
  ·obtain⟨rfl,rfl⟩:=h1
   rw[if_pos ⟨rfl,rfl⟩,if_pos ⟨rfl,by omega⟩]
  ·rw[if_neg h1]
   have e2:(a=t∧x<c+1)↔(a=t∧x<c):=by omega
   simp only[e2]
 ·obtain rfl:c=n:=by omega
  repeat' first|apply jS|apply jO|apply jN|apply jT|refine Q1 ?_|refine Q3 ?_|refine Qb ?_|refine Ym (h:=?_)|refine Zo (h:=?_)|refine Yc (h:=?_)|refine Qz (h:=?_)|(refine Qs (h1:=?_) (h2:=?_)<;>intro hc<;>try omega)|apply jU|apply jE|refine Q4 rfl ?_|apply jB|apply Qe
  refine Qp (ι:=Nat × List TR × List TR) ⟨fun z=>[(50,nv z.1),(49,nv m),(0,.pointer (some ⟨b,0,none⟩)),(1,nv t)],fun z=>(b,.cells (W.cells m c) 110)::(W.Nu++(tH z.2.1++(W.fB++(tH z.2.2++(W.Nd++(tH d1++(W.Nv++(tH T.v++(W.fG++(tH T.vi++[])))))))))),
   fun z=>z.1≤m∧(bY W.Nu W.u m z.2.1∧z.2.1.length=m∧(∀ a,tv z.2.1 a=tv T.u a)∧∀ a x,tM z.2.1 a x=if a=t∧x<z.1 then -(tM T.u a x) else tM T.u a x)∧(bY W.fB W.ui m z.2.2∧z.2.2.length=m∧(∀ a,tv z.2.2 a=tv T.ui a)∧∀ a x,tM z.2.2 a x=if x=t∧a<z.1 then -(tM T.ui a x) else tM T.ui a x),fun z=>m-z.1⟩ (0,T.u,T.ui)
   ⟨by omega,⟨jL,hlu,hVu,fun a c=>by rw[if_neg oq]⟩,⟨jm,hlui,jo,fun a c=>by rw[if_neg oq]⟩⟩ aF (HSub.refl _) (fun z hz=>?_)
  clear jL hVu jm jo
  obtain⟨k,u1,v1⟩:=z
  obtain⟨hkm,⟨jL,hlu1,hVu,hMu⟩,⟨jm,hlui1,jo,hMui⟩⟩:=hz
  dsimp only at hkm jL hlu1 hVu hMu jm hlui1 jo hMui ⊢
  by_cases hlk:k<m
  ·have e1:tM u1 t k=tM T.u t k:=by rw[hMu,if_neg oq]
   have e2:tM v1 k t=tM T.ui k t:=by rw[hMui,if_neg oq]
   repeat' first|apply jS|apply jO|apply jD|apply jN|apply jT|refine Q1 ?_|refine Q3 ?_|refine Q0 ?_|refine Qb ?_|refine QW (h:=?_)|refine Zo (h:=?_)|refine Y2 (h:=?_)|refine Yc (h:=?_)|refine Qz (h:=?_)|(refine Qs (h1:=?_) (h2:=?_)<;>intro hc<;>try omega)|apply jK|refine Q8 rfl ?_|apply jB
   refine Q5 aA rfl aH rfl (fun w _ _=>Q8c w _ (tM u1 t k) K (Qi (by rw[e1];exact Q1i hW.u hb.u t k)) oq) fun w v w' _ _ _ hR=>?_
   rw[e1]at hR
   subst hR
   repeat' first|refine QW (h:=?_)|fail
   refine Wr (A:=[(b,.cells (W.cells m c) 110)]) (B:=W.fB++(tH v1++(W.Nd++(tH d1++(W.Nv++(tH T.v++(W.fG++(tH T.vi++[])))))))) (i:=t) (j:=k) (V:=tv T.u) (u := -(tM T.u t k)) hVu jL rfl rfl aA rfl rfl oq hlk (fun u2 hT2 hl2 hV2 hM2=>?_)
   simp only[Vi,Vv,Vd]
   repeat' first|apply jD|apply jN|refine Q1 ?_|refine Q3 ?_|refine Qb ?_|refine QW (h:=?_)|refine Zo (h:=?_)|refine Y2 (h:=?_)|refine Yc (h:=?_)|refine Qz (h:=?_)|apply jT
   refine Q5 aA rfl aH rfl (fun w _ _=>Q8c w _ (tM v1 k t) K (Qi (by rw[e2];exact Q1i hW.ui hb.ui k t)) oq) fun w v w' _ _ _ hR=>?_
   rw[e2]at hR
   subst hR
   repeat' first|refine QW (h:=?_)|fail
   refine Wr (A:=(b,.cells (W.cells m c) 110)::(W.Nu++tH u2)) (B:=W.Nd++(tH d1++(W.Nv++(tH T.v++(W.fG++(tH T.vi++[])))))) (i:=k) (j:=t) (V:=tv T.ui) (u := -(tM T.ui k t)) jo jm (by simp only[Vi,Vv,Vd]) rfl aA rfl rfl oq gB (fun v2 hT3 hl3 hV3 hM3=>?_)
   simp only[Vi,Vv,Vd]
   repeat' first|apply jO|apply jN|apply jT|refine Q1 ?_|refine Qj ?_|apply jW
   refine Qa (k+1,u2,v2) ⟨by dsimp only;omega,⟨hT2,by dsimp only;omega,hV2,fun a x=>?_⟩,⟨hT3,by dsimp only;omega,hV3,fun a x=>?_⟩⟩ aY aF (HSub.refl _)
   ·dsimp only
    rw[hM2,hMu]
    by_cases h1:a=t∧x=k
    ·obtain⟨rfl,rfl⟩:=h1
     rw[if_pos ⟨rfl,rfl⟩,if_pos ⟨rfl,by omega⟩]
    ·rw[if_neg h1]
     have e2:(a=t∧x<k+1)↔(a=t∧x<k):=by omega
     simp only[e2]
   ·dsimp only
    rw[hM3,hMui]
    by_cases h1:a=k∧x=t
    ·obtain⟨rfl,rfl⟩:=h1
     rw[if_pos ⟨rfl,rfl⟩,if_pos ⟨rfl,by omega⟩]
    ·rw[if_neg h1]
     have e2:(x=t∧a<k+1)↔(x=t∧a<k):=by omega
     simp only[e2]
  ·obtain rfl:k=m:=by omega
   repeat' first|apply jS|apply jO|apply jN|apply jT|(refine Qs (h1:=?_) (h2:=?_)<;>intro hc<;>try omega)|apply jU|apply jE|refine Q4 rfl ?_|apply Qe
   have a1:fM W.Nu W.u k k u1 (negR t S.u):=hW.u.of jL oq (hW.u.rc.negR gB) (fun x y hx hy=>by
    rw[hMu,Q7t hW.u.rc gB hy,hW.u.at]
    have e:(x=t∧y<k)↔x=t:=by omega
    simp only[e])
   have a2:fM W.fB W.ui k k v1 (negC t S.ui):=hW.ui.of jm oq hW.ui.rc.negC (fun x y hx hy=>by
    rw[hMui,Qhn hW.ui.rc gB hx,hW.ui.at]
    have e:(y=t∧x<k)↔y=t:=by omega
    simp only[e])
   have a3:fM W.Nd W.d k c d1 (negR t S.d):=hW.d.of hTd oq (hW.d.rc.negR gB) (fun x y hx hy=>by
    rw[hMd,Q7t hW.d.rc gB hy,hW.d.at]
    have e:(x=t∧y<c)↔x=t:=by omega
    simp only[e])
   have hW':dw W k c ⟨u1,v1,d1,T.v,T.vi⟩ (S.neg t):=⟨a1,a2,a3,hW.v,hW.vi⟩
   have hV':bK T ⟨u1,v1,d1,T.v,T.vi⟩:=⟨hVu,jo,hVd,fun _=>rfl,fun _=>rfl⟩
   exact Yq (fun a w'' st=>⟨st.kp,_,Xr hW hW' hV',fun p hp=>st.hs.blk p hp,hW',hV'⟩)


def tnS:Array Value:=#[.bool false,.string ⟨#[]⟩,.bool (decide ((1:Int)<0)),sv (bD (Int.natAbs 1)),.bool (decide ((-1:Int)<0)),sv (bD (Int.natAbs (-1))),.bool false,.string ⟨#[]⟩]
theorem Qni:iq ⟨0,1,-1,0⟩=tnS:=by
 have h:bD (Int.natAbs 0)=[]:=congrArg Prod.snd eU
 unfold iq tnS
 dsimp only
 rw[h]
 rfl
theorem Qad (K:Nat):BdT (K+1) ⟨0,1,-1,0⟩:=⟨XZ _,Yz K,Yz K,XZ _⟩
def nzAt (S:Sm) (j i:Nat):Bool:=decide (gE S.d i j≠0)
theorem Qpr (K:Nat) (w:World) (b:Nat) (W:WV) (m n:Nat) (T:WT) (S S':Sm) (fl:Bool) (t:Nat) (hW:dw W m n T S) (hs:aI (bF b W m n T) w) (gB:t<m) (htn:t<n) (hm:m≤200) (hn:n≤200)
  (hK:K≤13400000000000) (hb:Ok K S) (hp:X1 K t m n S=some (S',fl)) :
  Calls Tryz.prog 92 #[.pointer (some ⟨b,0,none⟩),nv t] w (aP fun v w'=>jJ b W m n T S' w w'∧v=.bool fl):=by
 have hM:=Zk hs
 have hld:=hW.d.len
 have hT:=hW.d.T
 have hVr:∀ a,tv T.d a=tv T.d a:=fun _=>rfl
 have hS0:=bK.refl T
 refine Q9 [] (keys (bF b W m n T)) hM (bF b W m n T) Tryz.func92 rfl mixed (by kernel_rfl) Tryz.ntmps92 Tryz.results92 rfl hs (fun p hp=>List.mem_map.2 ⟨p,hp,rfl⟩) ?_
 simp only[toS,Qd,Qt,Qk,Ql,ay,Qg,QA,aC]
 repeat' first|apply jS|apply jO|apply jN|refine Q0 ?_|apply jT
 refine Q5 aA rfl aH rfl (fun w _ _=>WE w 1 dq dq) fun w v w' _ _ _ hR=>?_
 subst hR
 skip
 refine Q5 aA rfl aH rfl (fun w _ _=>WE w (-1) dq dq) fun w v w' _ _ _ hR=>?_
 subst hR
 repeat' first|apply jS|apply jO|apply jN|refine Q7 ?_|refine Q2 ?_|refine Qc fun _=>?_|refine Q3j (h:=?_)|refine Q2 ?_|apply jT
 refine ZP (l:=[(0,.agg #[.bool false,.string ⟨#[]⟩]),(1,Wv 1),(2,Wv (-1)),(3,.agg #[.bool false,.string ⟨#[]⟩])]) (cs:=tnS) rfl rfl rfl (by kernel_rfl) ?_
 repeat' first|apply jS|apply jO|apply jN|apply jT|refine Q1 ?_|refine Q0 ?_|refine Q2 ?_|refine Qc fun _=>?_|refine Q2 ?_|apply jB
 rename_i b5 b6 b7
 refine Qp (ι:=Nat) ⟨fun z=>[(8,nv z),(7,.pointer (some ⟨b7,0,none⟩)),(4,.bool false),(0,.pointer (some ⟨b,0,none⟩)),(1,nv t)],fun _=>(b7,.cells tnS 117)::bF b W m n T,
  fun z=>t≤z∧z≤n∧Q2g S t m n=(List.range' z (n-z)).findSome? fun j=>((List.range' t (m-t)).find? (nzAt S j)).map fun i=>(i,j),fun z=>n-z⟩ t ⟨by omega,by omega,rfl⟩ aF ?_ (fun j hj=>?_)
 ·exact HSub.at 0 rfl (HSub.skip (HSub.skip (HSub.refl _)))
 obtain⟨htj,hjn,hfp⟩:=hj
 dsimp only at htj hjn hfp ⊢
 unfold bF
 repeat' first|apply jS|refine Q1 ?_|refine Q3 ?_|refine Qz (h:=?_)|apply jO
 refine WL (j:=1) rfl rfl rfl rfl oq ?_
 by_cases hjl:j<n
 ·rw[Yu hjl,List.findSome?_cons]at hfp
  repeat' first|apply jS|apply jO|apply jN|apply jT|refine Q1 ?_|refine Q0 ?_|refine Qb ?_|(refine Qs (h1:=?_) (h2:=?_)<;>intro hc<;>try omega)|apply jK|refine Q8 rfl ?_|apply jB
  refine Qp (ι:=Nat) ⟨fun z=>[(9,nv z),(8,nv j),(7,.pointer (some ⟨b7,0,none⟩)),(4,.bool false),(0,.pointer (some ⟨b,0,none⟩)),(1,nv t)],fun _=>(b7,.cells tnS 117)::bF b W m n T,
   fun z=>t≤z∧z≤m∧(List.range' t (m-t)).find? (nzAt S j)=(List.range' z (m-z)).find? (nzAt S j),fun z=>m-z⟩ t ⟨by omega,by omega,rfl⟩ aF (HSub.refl _) (fun i hi=>?_)
  obtain⟨hti,him,hf⟩:=hi
  dsimp only at hti him hf ⊢
  unfold bF
  repeat' first|apply jS|refine Q1 ?_|refine Q3 ?_|refine Qz (h:=?_)|apply jO
  refine WL (j:=0) rfl rfl rfl rfl oq ?_
  by_cases hil:i<m
  ·rw[Yu hil,List.find?_cons]at hf
   have hx:(tM T.d i j).natAbs<256 ^ K:=Q1i hW.d hb.d i j
   repeat' first|apply jS|apply jO|apply jN|apply jT|refine Q1 ?_|refine Q3 ?_|refine Qb ?_|refine QW (h:=?_)|refine Zo (h:=?_)|refine Y2 (h:=?_)|refine Yc (h:=?_)|refine Qz (h:=?_)|(refine Qs (h1:=?_) (h2:=?_)<;>intro hc<;>try omega)|apply jK|refine Q8 rfl ?_|apply jB
   refine Q5 aA rfl aH rfl (fun w _ _=>XU w _ (tM T.d i j) K (Qi hx) oq) fun w v w' _ _ _ hR=>?_
   subst hR
   by_cases hz:tM T.d i j=0
   ·have h1:nzAt S j i=false:=decide_eq_false (by rw[← hW.d.at,hz];simp)
    rw[h1]at hf
    rw[show (tM T.d i j).sign=0 by rw[hz];rfl]
    repeat' first|apply jO|apply jN|apply jT|refine Q1 ?_|refine Q0 ?_|refine Qj ?_|(refine Z9 (h1:=?_) (h2:=?_)<;>intro hc<;>try omega)|apply jU|apply jE|refine Q8 rfl ?_|apply Qe
    exact Qa (i+1) ⟨by first|omega|(dsimp only;omega),by first|omega|(dsimp only;omega),hf⟩ dgp aF (HSub.refl _)
   ·have h1:nzAt S j i=true:=decide_eq_true (by rw[← hW.d.at];exact hz)
    rw[h1]at hf
    dsimp only at hf
    rw[hf]at hfp
    have hfp:Q2g S t m n=some (i,j):=hfp
    have hsz:¬(tM T.d i j).sign=0:=fun h=>hz (Int.sign_eq_zero_iff_zero.1 h)
    unfold X1 at hp
    rw[hfp]at hp
    dsimp only at hp
    by_cases hit:i=t
    ·rw[if_pos hit]at hp
     dsimp only at hp
     by_cases hjt:j=t
     ·rw[if_pos hjt]at hp
      obtain⟨rfl,rfl⟩:=Prod.mk.inj (Option.some.inj hp)
      repeat' first|apply jS|apply jO|apply jN|apply jT|refine Q1 ?_|refine Q0 ?_|(refine Z9 (h1:=?_) (h2:=?_)<;>intro hc<;>try omega)|(refine Ze (h1:=?_) (h2:=?_)<;>intro hc<;>try omega)|apply jV|apply jK|apply jR|refine Q4 rfl ?_|apply QT
      exact Qn rfl (fun a w' st=>⟨⟨st.kp,T,Xr hW hW hS0,fun p hp=>st.hs.blk p (by exact Ve _ hp),hW,hS0⟩,rfl⟩)
     ·rw[if_neg hjt]at hp
      cases hk2:ck K (S.cols t j ⟨0,1,-1,0⟩)with
      | none=>rw[hk2]at hp;cases hp
      | some S2 =>
       rw[hk2]at hp
       obtain⟨rfl,rfl⟩:=Prod.mk.inj (Option.some.inj hp)
       obtain⟨rfl,hok2⟩:=Zl hk2
       repeat' first|apply jS|apply jO|apply jN|apply jT|refine Q1 ?_|refine Q7 ?_|(refine Z9 (h1:=?_) (h2:=?_)<;>intro hc<;>try omega)|(refine Ze (h1:=?_) (h2:=?_)<;>intro hc<;>try omega)|apply jK|refine Q8 rfl ?_|refine Q4 rfl ?_
       refine Z2 (A:=[(b7,.cells tnS 117)]) (N:=bF b W m n T) (B:=[]) (R:=fun w _ w'=>jJ b W m n T (S.cols t j ⟨0,1,-1,0⟩) w w') (by simp only[bF,Vi,Vv,Vj]) aA rfl aH rfl (fun w _ hs=>?_) (fun w1 v1 w2 _ _ hk2 hR=>?_)
       ·have hs1:aI (bF b W m n T) w:=HSub.bU (by exact HSub.skip (HSub.refl _)) hs
        have h:=Qb8 (K+1) w b W m n T S t j ⟨0,1,-1,0⟩ hW hs1 oq oq (fun e=>hjt e.symm) hm hn oq (Qad K) hb.up
        rw[Qni]at h
        exact QN h fun v w' h=>⟨h.1,h⟩
       ·obtain⟨Tb,hk3,bH,hW3Tb,hV3Tb⟩:=hR.of hS0
        refine⟨bF b W m n Tb,hk3,bH,?_⟩
        repeat' first|apply jS|apply jO|apply jN|apply jT|refine Q0 ?_|apply jV|apply jR|apply QT
        exact Qn rfl (fun a w' st=>⟨⟨st.kp,Tb,Xr hW hW3Tb hV3Tb,fun p hp=>st.hs.blk p (by exact List.mem_append_right _ (List.mem_append_left _ hp)),hW3Tb,hV3Tb⟩,rfl⟩)
    ·rw[if_neg hit]at hp
     cases hk1:ck K (S.rows t i ⟨0,1,-1,0⟩)with
     | none=>rw[hk1]at hp;cases hp
     | some S1 =>
      rw[hk1]at hp
      dsimp only at hp
      obtain⟨rfl,hok1⟩:=Zl hk1
      repeat' first|apply jS|apply jO|apply jN|apply jT|refine Q1 ?_|refine Q7 ?_|(refine Z9 (h1:=?_) (h2:=?_)<;>intro hc<;>try omega)|(refine Ze (h1:=?_) (h2:=?_)<;>intro hc<;>try omega)|apply jK|refine Q8 rfl ?_|refine Q4 rfl ?_
      refine Z2 (A:=[(b7,.cells tnS 117)]) (N:=bF b W m n T) (B:=[]) (R:=fun w _ w'=>jJ b W m n T (S.rows t i ⟨0,1,-1,0⟩) w w') (by simp only[bF,Vi,Vv,Vj]) aA rfl aH rfl (fun w _ hs=>?_) (fun w1 v1 w2 _ _ hk2 hR=>?_)
      ·have hs1:aI (bF b W m n T) w:=HSub.bU (by exact HSub.skip (HSub.refl _)) hs
       have h:=Qb6 (K+1) w b W m n T S t i ⟨0,1,-1,0⟩ hW hs1 oq oq (fun e=>hit e.symm) hm hn oq (Qad K) hb.up
       rw[Qni]at h
       exact QN h fun v w' h=>⟨h.1,h⟩
      ·obtain⟨Ta,hk3,bH,hW3Ta,hV3Ta⟩:=hR.of hS0
       refine⟨bF b W m n Ta,hk3,bH,?_⟩
       by_cases hjt:j=t
       ·rw[if_pos hjt]at hp
        obtain⟨rfl,rfl⟩:=Prod.mk.inj (Option.some.inj hp)
        repeat' first|apply jS|apply jO|apply jN|apply jT|refine Q1 ?_|refine Q0 ?_|(refine Ze (h1:=?_) (h2:=?_)<;>intro hc<;>try omega)|apply jV|apply jK|apply jR|refine Q4 rfl ?_|apply QT
        exact Qn rfl (fun a w' st=>⟨⟨st.kp,Ta,Xr hW hW3Ta hV3Ta,fun p hp=>st.hs.blk p (by exact List.mem_append_right _ (List.mem_append_left _ hp)),hW3Ta,hV3Ta⟩,rfl⟩)
       ·rw[if_neg hjt]at hp
        cases hk2:ck K ((S.rows t i ⟨0,1,-1,0⟩).cols t j ⟨0,1,-1,0⟩)with
        | none=>rw[hk2]at hp;cases hp
        | some S2 =>
         rw[hk2]at hp
         obtain⟨rfl,rfl⟩:=Prod.mk.inj (Option.some.inj hp)
         obtain⟨rfl,hok2⟩:=Zl hk2
         repeat' first|apply jS|apply jO|apply jN|apply jT|refine Q1 ?_|refine Q7 ?_|(refine Ze (h1:=?_) (h2:=?_)<;>intro hc<;>try omega)|refine Q8 rfl ?_
         refine Z2 (A:=[(b7,.cells tnS 117)]) (N:=bF b W m n Ta) (B:=[]) (R:=fun w _ w'=>jJ b W m n Ta ((S.rows t i ⟨0,1,-1,0⟩).cols t j ⟨0,1,-1,0⟩) w w') (by simp only[bF,Vi,Vv,Vj]) aA rfl aH rfl (fun w _ hs=>?_) (fun w1 v1 w2 _ _ hk2 hR=>?_)
         ·have hs1:aI (bF b W m n Ta) w:=HSub.bU (by exact HSub.skip QI) hs
          have h:=Qb8 (K+1) w b W m n Ta (S.rows t i ⟨0,1,-1,0⟩) t j ⟨0,1,-1,0⟩ hW3Ta hs1 oq oq (fun e=>hjt e.symm) hm hn oq (Qad K) hok1.up
          rw[Qni]at h
          exact QN h fun v w' h=>⟨h.1,h⟩
         ·obtain⟨Tb,hk3,bH,hW3Tb,hV3Tb⟩:=hR.of hV3Ta
          refine⟨bF b W m n Tb,hk3,bH,?_⟩
          repeat' first|apply jS|apply jO|apply jN|apply jT|refine Q0 ?_|apply jV|apply jR|apply QT
          exact Qn rfl (fun a w' st=>⟨⟨st.kp,Tb,Xr hW hW3Tb hV3Tb,fun p hp=>st.hs.blk p (by exact List.mem_append_right _ (List.mem_append_left _ hp)),hW3Tb,hV3Tb⟩,rfl⟩)
  ·rw[show m-i=0 by omega]at hf
   have hf:(List.range' t (m-t)).find? (nzAt S j)=none:=hf
   rw[hf]at hfp
   repeat' first|apply jO|apply jN|apply jT|refine Q1 ?_|refine Q0 ?_|refine Qb ?_|refine Qj ?_|(refine Qs (h1:=?_) (h2:=?_)<;>intro hc<;>try omega)|apply jU|apply jE|refine Q4 rfl ?_|apply jW|apply Qe
   exact Qa (j+1) ⟨by first|omega|(dsimp only;omega),by first|omega|(dsimp only;omega),hfp⟩ dgp aF (HSub.refl _)
 ·rw[show n-j=0 by omega]at hfp
  have hfp:Q2g S t m n=none:=hfp
  unfold X1 at hp
  rw[hfp]at hp
  obtain⟨rfl,rfl⟩:=Prod.mk.inj (Option.some.inj hp)
  repeat' first|apply jS|apply jO|apply jN|apply jT|refine Q0 ?_|refine Qb ?_|(refine Qs (h1:=?_) (h2:=?_)<;>intro hc<;>try omega)|apply jU|apply jE|apply jR|refine Q4 rfl ?_|apply Qe
  exact Qn rfl (fun a w' st=>⟨⟨st.kp,T,rfl,fun p hp=>st.hs.blk p (by exact Ve _ hp),hW,hS0⟩,rfl⟩)


theorem Qcl (b r:Nat) (hr:r≤200):aB 24 1 [(b,.cells (Z1 #[.slice none 0 0] (r*1)) 24)] (.slice (some ⟨b,0,none⟩) r r) r (List.replicate r (.slice none 0 0)):=by
 have h:=aB.mk' (e:=24) (sz:=1) (n:=r) (b:=b) (cs:=Z1 #[.slice none 0 0] (r*1)) (by rw[iG];simp) (by simp only[maxLen];omega)
 rw[iG]at h ⊢
 simpa using h
theorem Qg4 {α:Type} {l:List α} {x y:α} {r k:Nat} (hl:l.length=k) (hk:k<r):(l++List.replicate (r-k) y).set k x=(l++[x])++List.replicate (r-(k+1)) y:=by
 rw[List.set_append_right _ _ oq,hl,Nat.sub_self,show r-k=r-(k+1)+1 by omega,List.replicate_succ,List.set_cons_zero,Vd]
 rfl

theorem c_of (w:World) (v:Value) (m:ZM) (hm:cO m) (hv:fO w v m) :
  Calls Tryz.prog 91 #[v] w (aP fun v w'=>Kp [] w w'∧∃ N ts,New (N++tH ts) w w'∧bY N v m.c ts∧ts.map (·.2.2)=(List.range m.r).map (dh m)):=by
 obtain⟨E,rfl,hE⟩:=hv
 have hl:=hm.len
 have hle:=hm.le
 have hbr:=hm.r
 have hbc:=hm.c
 have hrc:m.r*m.c≤40000:=by rw[← hl];exact hle
 refine Q9 [] [] au [] Tryz.func91 rfl mixed (by kernel_rfl) Tryz.ntmps91 Tryz.results91 rfl ⟨by simp,by simp⟩ au ?_
 simp only[toS,Qd,Qt,Qk,Ql,ay,Qg,QA,aC]
 have hRE:=WZ.rd (c:=⟨Tryz.prog,31,w,[],by simp⟩) hE rfl []
 rw[hl]at hRE
 clear hE
 repeat' first|apply jS|apply jO|apply jN|refine Q3 ?_|refine Q0 ?_|refine Qb ?_|refine QB fun _=>?_|apply jT
 rename_i b1
 refine Yv (n:=m.r) rfl rfl rfl rfl rfl oq oq (fun b7=>?_)
 have hO:=Qcl b7 m.r hbr
 repeat' first|apply jS|apply jO|apply jN|apply jT|refine Q1 ?_|refine Q0 ?_|refine YB (h:=?_)|apply jB
 refine Qp (ι:=Nat × aj × List TR) ⟨fun z=>[(10,nv z.1),(9,nv m.r),(3,.slice (some ⟨b7,0,none⟩) m.r m.r),(1,.pointer (some ⟨b1,0,none⟩))],
  fun z=>[(b1,.cells #[nv m.r,nv m.c,E] 26)]++(z.2.1++(tH z.2.2++[])),
  fun z=>z.1≤m.r∧aB 24 1 z.2.1 (.slice (some ⟨b7,0,none⟩) m.r m.r) m.r (z.2.2.map (·.2.1)++List.replicate (m.r-z.1) (.slice none 0 0))∧z.2.2.length=z.1∧(∀ t∈z.2.2,aG t.1 t.2.1 m.c t.2.2)∧z.2.2.map (·.2.2)=(List.range z.1).map (dh m),fun z=>m.r-z.1⟩
  (0,[(b7,.cells (Z1 #[.slice none 0 0] (m.r*1)) 24)],[]) ⟨by omega,hO,rfl,fun t ht=>(by cases ht),rfl⟩ aF ?_ (fun z hz=>?_)
 ·exact HSub.at 1 rfl (HSub.at 0 rfl (HSub.nil _))
 clear hO
 obtain⟨k,N,ts⟩:=z
 obtain⟨hkr,hO,hlen,hrows,hts⟩:=hz
 dsimp only at hkr hO hlen hrows hts ⊢
 by_cases hlt:k<m.r
 ·have hk1:(k+1)*m.c≤m.r*m.c:=V1 _ oq
  have hk2:k*m.c≤m.r*m.c:=V1 _ oq
  repeat' first|apply jS|apply jO|apply jN|apply jT|refine Q1 ?_|refine Q3 ?_|refine Q0 ?_|refine Qb ?_|refine Qj ?_|refine ZK (h:=?_)|(refine Qs (h1:=?_) (h2:=?_)<;>intro hc<;>try omega)|apply jK|refine Q8 rfl ?_|apply jB
  refine Qgh rfl rfl rfl hRE rfl rfl hk1 (fun v26 hv26 _=>?_)
  skip
  refine Qf (A:=[_]) (B:=N++(tH ts++[])) rfl aA rfl aH rfl (fun w hk hs=>Qdt w _ m.c (dh m k) (hv26.at hk hs (HSub.nil _)) oq) fun w v w' _ _ _ hR=>?_
  obtain⟨N2,fA,hO2⟩:=hR
  obtain⟨A2,c2,rfl⟩:=hO2.form
  refine⟨N2,fA,?_⟩
  skip
  refine Yw rfl rfl rfl rfl hO.rd hlt ?_
  skip
  refine Qk2 (A:=[(b1,.cells #[nv m.r,nv m.c,E] 26)]++N2) (B:=tH ts++[]) (i:=k) (u:=.slice A2 m.c c2) hO (by simp only[Vd]) rfl aA rfl rfl rfl rfl oq (fun N' aU=>?_)
  rw[Qg4 (by simpa using hlen) hlt]at aU
  repeat' first|apply jO|apply jN|apply jT|refine Q1 ?_|refine Qj ?_|apply jW
  refine Qa (k+1,N',ts++[(N2,.slice A2 m.c c2,dh m k)]) ⟨by dsimp only;omega,by dsimp only;simpa using aU,by simp[hlen],fun t ht=>?_,by dsimp only;rw[Vl,hts,List.range_succ,Vl];rfl⟩ aY aF ?_
  ·rcases List.mem_append.1 ht with ht|ht
   ·exact hrows t ht
   ·obtain rfl:=List.mem_singleton.1 ht
    exact hO2
  ·have hp:(N2++(N'++tH ts)).Perm (N'++(tH ts++N2)):=by rw[← Vd N'];exact List.perm_append_comm
   exact⟨[],by simpa [Q44,Qm0] using hp⟩
 ·repeat' first|apply jS|apply jO|apply jN|apply jT|refine Q1 ?_|refine Q0 ?_|(refine Qs (h1:=?_) (h2:=?_)<;>intro hc<;>try omega)|apply jU|apply jE|apply jR|refine Q4 rfl ?_|apply Qe
  obtain rfl:k=m.r:=by omega
  rw[Nat.sub_self,List.replicate_zero,Vj]at hO
  exact Qn rfl (fun a w' st=>⟨st.kp,N,ts,st.aS rfl (by exact HSub.skip (by simpa using HSub.refl _)),⟨by rw[hlen];exact hO,hrows⟩,hts⟩)

end Go.Proofs.YtljmapfihjkafaaGreatDoor

namespace Go.Proofs.YtljmapfihjkafaaGreatDoor
open Go Go.RowKit Go.Shelf Go.Lib
set_option linter.unusedSimpArgs false
set_option linter.unusedVariables false
set_option linter.unusedSectionVars false

def jX:Ren:=⟨fun i=>if i=4 then 154 else i,fun i=>if i=0 then 0 else if i=3 then 3 else if i=4 then 4 else if i=9 then 9 else if i=20 then 20 else if i=22 then 24 else if i=25 then 35 else i,fun i=>i⟩
theorem Qs9:Lays8.n4 Tryz.prog jX where
 mixed:=mixed
 f4:=⟨"slices.Grow[[]cocycle/api.Wide,cocycle/api.Wide]",by decide,by kernel_rfl⟩
 t0:=by kernel_rfl
 a0:=fun _=>by kernel_rfl
 z0:=fun _=>by kernel_rfl
 v0:=fun _=>by kernel_rfl
 t3:=by kernel_rfl
 a3:=fun _=>by kernel_rfl
 z3:=fun _=>by kernel_rfl
 v3:=fun _=>by kernel_rfl
 t4:=by kernel_rfl
 a4:=fun _=>by kernel_rfl
 z4:=fun _=>by kernel_rfl
 v4:=fun _=>by kernel_rfl
 t9:=by kernel_rfl
 a9:=fun _=>by kernel_rfl
 z9:=fun _=>by kernel_rfl
 v9:=fun _=>by kernel_rfl
 t20:=by kernel_rfl
 a20:=fun _=>by kernel_rfl
 z20:=fun _=>by kernel_rfl
 v20:=fun _=>by kernel_rfl
 t22:=by kernel_rfl
 a22:=fun _=>by kernel_rfl
 z22:=fun _=>by kernel_rfl
 v22:=fun _=>by kernel_rfl

set_option maxRecDepth 100000 in
theorem Qsm (w:World) (n:Nat) (hn:n≤40000) :
  Calls Tryz.prog 154 #[.slice none 0 0,nv n] w (aP fun v w'=>Kp [] w w'∧∃ N,New N w w'∧aG N v 0 []):=by
 rcases Nat.eq_zero_or_pos n with h0|h0
 ·subst h0
  exact(Any8.slices_Grow_room Qs9 none 0 0 0 w oq oq oq oq).mono fun e w' he=>by
   obtain⟨rfl,rfl⟩:=he
   exact⟨Kp.refl _ _,[],New.nil _ _,aG.nil⟩
 ·obtain⟨i,z,hi,hs,hby,hz,hzc⟩:=TE.info (P:=Tryz.prog) (e:=35) (sz:=2) (bytes:=24) (zc:=#[.bool false,.string ⟨#[]⟩])
  exact(Any8.slices_Grow_grow Qs9 i z hi hz oq none 0 0 n [] w oq oq (by rw[hby];omega) oq au (fun _=>rfl) (fun a h=>by cases h)).mono fun e w' he=>by
   obtain⟨rfl,rfl⟩:=he
   have hge:=grownCap_ge w (0+n) 0 (jX.t 25)
   have hcm:=grownCap_le_maxLen w (0+n) 0 (jX.t 25) (by unfold maxLen;omega)
   have e25:jX.t 25=35:=rfl
   rw[e25]at hge hcm ⊢
   rw[Vu]at hge hcm ⊢
   generalize grownCap w n 0 35=G at hge hcm ⊢
   refine⟨(Kp.drew [] w).trans (Kp.alloc [] _ _),[(w.heap.size,_)],New.one (V8 _) (heap_alloc_new w.drew _),rfl,.inr ⟨w.heap.size,G,_,rfl,rfl,V9 _,hcm,?_,rfl⟩⟩
   simp only[Array.size_append,size_zeroCells,hzc]
   simp
   omega

def IsG (w:World) (v:Value) (r c:Nat) (g:List (List Int)):Prop:=g.length=r∧∃ vs:List Value,je w 1 v r vs∧∀ i,i<r→WZ w (vs.getD i (iv 0)) c (g.getD i [])
theorem IsG.mono {w w':World} {v:Value} {r c:Nat} {g:List (List Int)} (h:IsG w v r c g) (hk:Kp [] w w'):IsG w' v r c g:=by
 obtain⟨h1,vs,h2,h3⟩:=h
 exact⟨h1,vs,h2.mono hk,fun i hi=>(h3 i hi).mono hk⟩
theorem Q9j {g:List (List Int)} {k:Nat} (hk:k<g.length):(g.take (k+1)).flatten=(g.take k).flatten++g.getD k []:=by
 rw[List.take_add_one,List.flatten_append,List.getD,List.getElem?_eq_getElem hk]
 simp
theorem Qlj (w:World) (v:Value) (r c:Nat) (g:List (List Int)) (hv:IsG w v r c g) (hr:r≤200) (hc:c≤200) :
  Calls Tryz.prog 135 #[v] w (aP fun u w'=>Kp [] w w'∧∃ N,New N w w'∧aG N u (r*c) g.flatten):=by
 obtain⟨hgl,vs,hvs,hrow⟩:=hv
 have hvl:vs.length=r:=by have:=hvs.1;omega
 have hrc:r*c≤200*200:=Vr hr hc
 refine Q9 [] [] au [] Tryz.func135 rfl mixed (by kernel_rfl) Tryz.ntmps135 Tryz.results135 rfl ⟨by simp,by simp⟩ au ?_
 simp only[toS,Qd,Qt,Qk,Ql,ay,Qg,QA,aC]
 have hR:Rd ⟨Tryz.prog,36,w,[],by simp⟩ [] 1 v r vs:=hvs.rd rfl []
 have hRr:∀ i,i<r→jG ⟨Tryz.prog,36,w,[],by simp⟩ [] (vs.getD i (iv 0)) c (g.getD i []):=fun i hi=>(hrow i hi).rd rfl []
 repeat' first|apply jS|apply jO|apply jN|refine Q1 ?_|refine Q0 ?_|apply jT
 refine XP rfl rfl rfl hR ?_
 repeat' first|apply jN|apply jT|refine Q1 ?_|apply jB
 refine Qp (ι:=Nat) ⟨fun z=>[(11,nv z),(10,nv r),(9,v),(3,nv (z*c)),(0,v)],fun _=>[],fun z=>z≤r,fun z=>r-z⟩ 0 (V9 _) (by dsimp only;rw[Nat.zero_mul];exact aF) (HSub.nil _) (fun k hk=>?_)
 dsimp only at hk ⊢
 by_cases hlt:k<r
 ·have hk1:(k+1)*c≤r*c:=V1 _ oq
  rw[Nat.succ_mul]at hk1
  have hRk:=hRr k hlt
  repeat' first|apply jS|apply jO|apply jN|apply jT|(refine Qs (h1:=?_) (h2:=?_)<;>intro hc<;>try omega)|apply jK|refine Q8 rfl ?_|apply jB
  refine Yw rfl rfl rfl rfl hR hlt ?_
  skip
  refine Q1d rfl rfl rfl rfl hR (HSub.nil _) (Xj (d:=iv 0) oq) ?_
  repeat' first|apply jS|apply jO|apply jN|apply jT|refine Q1 ?_|refine Q0 ?_|refine Zv (h:=?_)|refine Qj ?_|refine Zf (h:=?_)|(refine Qs (h1:=?_) (h2:=?_)<;>intro hc<;>try omega)|apply jK|refine Q4 rfl ?_|apply jW
  exact Qa (k+1) dgp dgp (by dsimp only;rw[Nat.succ_mul];exact aF) (HSub.nil _)
 ·obtain rfl:k=r:=by omega
  clear hk hlt
  repeat' first|apply jS|apply jO|apply jN|apply jT|refine Q1 ?_|(refine Qs (h1:=?_) (h2:=?_)<;>intro hc<;>try omega)|apply jU|apply jE|refine Q4 rfl ?_|apply Qe
  refine Qf (A:=[]) (B:=[]) rfl aA rfl aH rfl (fun w hk hs=>Qsm w (k*c) oq) fun w v6 w' _ _ _ hR6=>?_
  obtain⟨N,hN,hO⟩:=hR6
  refine⟨N,hN,?_⟩
  repeat' first|apply jS|apply jO|apply jN|refine Q1 ?_|refine Q0 ?_|apply jT
  refine XP rfl rfl rfl hR ?_
  repeat' first|apply jN|apply jT|refine Q1 ?_|apply jB
  refine Qp (ι:=Nat × aj × Value) ⟨fun z=>[(27,nv z.1),(26,nv k),(25,v),(6,z.2.2),(0,v)],fun z=>z.2.1++[],fun z=>z.1≤k∧aG z.2.1 z.2.2 (z.1*c) (g.take z.1).flatten,fun z=>k-z.1⟩ (0,N,v6) ⟨V9 _,by dsimp only;rw[Nat.zero_mul];exact hO⟩ aF (by simpa using HSub.refl _) (fun z hz=>?_)
  clear hO
  obtain⟨i,N,v6⟩:=z
  obtain⟨hik,hO⟩:=hz
  dsimp only at hik hO ⊢
  by_cases hlt:i<k
  ·have hk1:(i+1)*c≤k*c:=V1 _ oq
   rw[Nat.succ_mul]at hk1
   have hRk:=hRr i hlt
   repeat' first|apply jS|apply jO|apply jN|apply jT|(refine Qs (h1:=?_) (h2:=?_)<;>intro hc<;>try omega)|apply jK|refine Q8 rfl ?_|apply jB
   refine Yw rfl rfl rfl rfl hR hlt ?_
   skip
   refine Q1d rfl rfl rfl rfl hR (HSub.nil _) (Xj (d:=iv 0) oq) ?_
   repeat' first|apply jO|apply jN|refine Q1 ?_|refine Q0 ?_|apply jT
   refine Y3 (A:=[]) (B:=[]) hO hRk (HSub.nil _) rfl aA rfl rfl rfl rfl oq (fun v' N' aU=>?_)
   rw[← Q9j oq, ← Nat.succ_mul]at aU
   repeat' first|apply jO|apply jN|apply jT|refine Q1 ?_|refine Q0 ?_|refine Qj ?_|apply jW
   exact Qa (i+1,N',v') ⟨by dsimp only;omega,aU⟩ aY aF (HSub.refl _)
  ·obtain rfl:i=k:=by omega
   rw[Vf oq]at hO
   repeat' first|apply jS|apply jO|apply jN|apply jT|refine Q1 ?_|refine Q0 ?_|(refine Qs (h1:=?_) (h2:=?_)<;>intro hc<;>try omega)|apply jU|apply jE|apply jR|refine Q4 rfl ?_|apply Qe
   exact Qn rfl (fun a w' st=>⟨st.kp,N,st.aS rfl (by simpa using HSub.refl _),hO⟩)

def gM (r c:Nat) (g:List (List Int)):ZM:=⟨r,c,g.flatten⟩
theorem XA {r c:Nat} {g:List (List Int)} (h:Rec r c g):g.flatten.length=r*c:=by
 have h1:∀ (l:List (List Int)),(∀ x∈l,x.length=c)→l.flatten.length=l.length*c:=by
  intro l
  induction l with
  | nil=>intro _;simp
  | cons x l ih =>
   intro hx
   rw[List.flatten_cons,Vk,ih (fun y hy=>hx y (by simp[hy])),hx x au,List.length_cons,Nat.succ_mul]
   omega
 rw[h1 g h.row,h.len]
theorem Wt {r c:Nat} {g:List (List Int)} (h:Rec r c g) (hr:r≤200) (hc:c≤200):cO (gM r c g):=⟨hr,hc,XA h⟩
theorem Q9x (w:World) (v:Value) (r c:Nat) (g:List (List Int)) (hv:IsG w v r c g) (hg:Rec r c g) (hr:r≤200) (hc:c≤200) :
  Calls Tryz.prog 97 #[v,nv c] w (aP fun u w'=>Kp [] w w'∧Q36 (gM r c g) w u w'):=by
 have hv0:=hv
 obtain⟨hgl,vs,hvs,hrow⟩:=hv
 have hrc:r*c≤200*200:=Vr hr hc
 refine Q9 [] [] au [] Tryz.func97 rfl mixed (by kernel_rfl) Tryz.ntmps97 Tryz.results97 rfl ⟨by simp,by simp⟩ au ?_
 simp only[toS,Qd,Qt,Qk,Ql,ay,Qg,QA,aC]
 have hR:Rd ⟨Tryz.prog,11,w,[],by simp⟩ [] 1 v r vs:=hvs.rd rfl []
 repeat' first|apply jS|apply jO|apply jN|refine Q1 ?_|refine Qc fun _=>?_|apply jT
 rename_i b4
 refine XP rfl rfl rfl hR ?_
 repeat' first|refine Q1 ?_|fail
 refine Qf (A:=[_]) (B:=[]) rfl aA rfl aH rfl (fun w hk hs=>Qlj w v r c g (hv0.mono hk) hr hc) fun w v6 w' _ _ _ hR6=>?_
 obtain⟨N,hN,hO⟩:=hR6
 obtain⟨A6,c6,rfl⟩:=hO.form
 refine⟨N,hN,?_⟩
 skip
 refine ZP (l:=[(0,nv r),(1,nv c),(2,.slice A6 (r*c) c6)]) (cs:=#[nv r,nv c,.slice A6 (r*c) c6]) rfl rfl rfl rfl ?_
 repeat' first|apply jN|apply jT|refine Q2 ?_|refine Q2 ?_|apply jR
 exact QQ 0 rfl rfl rfl (fun a w' st=>⟨st.kp,N,st.aS rfl Q6,fZ.mk' hO⟩)

set_option linter.unusedSimpArgs false
set_option linter.unusedVariables false
set_option linter.unusedSectionVars false

theorem WQ {K fc f m n k t:Nat} {S S':Sm} (h:ZF K fc f m n (k+1) t S=some S'):∃ S1 fl,X1 K t m n S=some (S1,fl)∧(fl=false→S1=S')∧(fl=true→∃ S2,Zz K fc t m n f S1=some S2∧ZF K fc f m n k (t+1) (if gE S2.d t t<0 then S2.neg t else S2)=some S'):=by
 rw[ZF]at h
 cases h1:X1 K t m n S with
 | none=>rw[h1]at h;cases h
 | some r =>
  obtain⟨S1,fl⟩:=r
  rw[h1]at h
  dsimp only at h
  refine⟨S1,fl,rfl,fun hf=>?_,fun hf=>?_⟩
  ·rw[hf]at h;exact Option.some.inj h
  ·rw[hf,if_pos rfl]at h
   cases h2:Zz K fc t m n f S1 with
   | none=>rw[h2]at h;cases h
   | some S2=>rw[h2]at h;exact⟨S2,rfl,h⟩
theorem W8 {K fc f m n t:Nat} {S S2:Sm} (h:Zz K fc t m n (f+1) S=some S2):∃ Sa,ZG K t m n fc S=some Sa∧((Z0 Sa t m n=none∧Sa=S2)∨∃ i Sb,Z0 Sa t m n=some i∧ck K (Sa.rows t i ⟨1,1,0,1⟩)=some Sb∧Zz K fc t m n f Sb=some S2):=by
 rw[Zz]at h
 cases h1:ZG K t m n fc S with
 | none=>rw[h1]at h;cases h
 | some Sa =>
  rw[h1]at h
  dsimp only at h
  refine⟨Sa,rfl,?_⟩
  cases h2:Z0 Sa t m n with
  | none=>rw[h2]at h;exact .inl ⟨rfl,Option.some.inj h⟩
  | some i =>
   rw[h2]at h
   dsimp only at h
   cases h3:ck K (Sa.rows t i ⟨1,1,0,1⟩)with
   | none=>rw[h3]at h;cases h
   | some Sb=>rw[h3]at h;exact .inr ⟨i,Sb,rfl,h3,h⟩
theorem Qpg {K t i:Nat} {S:Sm} {r:Sm × Bool} (h:gQ K t i S=some r) (hb:Ok K S):Ok K r.1:=by
 unfold gQ at h
 split at h
 ·cases h;exact hb
 ·split at h
  ·rename_i h2
   cases h
   obtain⟨rfl,hok⟩:=Zl h2
   exact hok
  ·cases h
theorem Qpi {K t i:Nat} {S:Sm} {r:Sm × Bool} (h:gU K t i S=some r) (hb:Ok K S):Ok K r.1:=by
 unfold gU at h
 split at h
 ·cases h;exact hb
 ·split at h
  ·rename_i h2
   cases h
   obtain⟨rfl,hok⟩:=Zl h2
   exact hok
  ·cases h
theorem Qga {K t:Nat}:∀ {k i:Nat} {S S':Sm},rowP K t k i S=some S'→Ok K S→Ok K S'
 | 0,_,_,_,h,hb=>by rw[rowP]at h;cases h;exact hb
 | k+1,i,S,S',h,hb=>by
  obtain⟨r,h1,h2⟩:=Q18 h
  exact Qga h2 (Qpg h1 hb)
theorem Qi8 {K t:Nat}:∀ {k j:Nat} {ch:Bool} {S:Sm} {q:Sm × Bool},dP K t k j ch S=some q→Ok K S→Ok K q.1
 | 0,_,_,_,_,h,hb=>by rw[dP]at h;cases h;exact hb
 | k+1,j,ch,S,q,h,hb=>by
  obtain⟨r,h1,h2⟩:=Q1t h
  exact Qi8 h2 (Qpi h1 hb)
theorem Q57 {K t m n:Nat}:∀ {f:Nat} {S S':Sm},ZG K t m n f S=some S'→Ok K S→Ok K S'
 | 0,_,_,h,_=>by cases h
 | f+1,S,S',h,hb=>by
  obtain⟨S1,S2,ch,h1,h2,h3,h4⟩:=Wo h
  have hb2:=Qi8 h2 (Qga h1 hb)
  cases ch with
  | true=>exact Q57 (h3 rfl) hb2
  | false=>rw[← h4 rfl];exact hb2
theorem Q4b {K fc t m n:Nat}:∀ {f:Nat} {S S':Sm},Zz K fc t m n f S=some S'→Ok K S→Ok K S'
 | 0,_,_,h,_=>by cases h
 | f + 1, S, S', h, hb => by
  obtain⟨Sa,h1,⟨_,rfl⟩|⟨i,Sb,_,h3,h4⟩⟩:=W8 h
  ·exact Q57 h1 hb
  ·obtain⟨rfl,hok⟩:=Zl h3
   exact Q4b h4 hok
theorem Q92 {K t m n:Nat} {S:Sm} {r:Sm × Bool} (h:X1 K t m n S=some r) (hb:Ok K S):Ok K r.1:=by
 unfold X1 at h
 split at h
 ·cases h;exact hb
 ·rename_i i j _
  by_cases hi:i=t
  ·rw[if_pos hi]at h
   dsimp only at h
   by_cases hj:j=t
   ·rw[if_pos hj]at h;cases h;exact hb
   ·rw[if_neg hj]at h
    cases h2:ck K (S.cols t j ⟨0,1,-1,0⟩)with
    | none=>rw[h2]at h;cases h
    | some S2=>rw[h2]at h;obtain⟨rfl,hok⟩:=Zl h2;cases h;exact hok
  ·rw[if_neg hi]at h
   cases h1:ck K (S.rows t i ⟨0,1,-1,0⟩)with
   | none=>rw[h1]at h;cases h
   | some S1 =>
    rw[h1]at h
    dsimp only at h
    obtain⟨rfl,hok1⟩:=Zl h1
    by_cases hj:j=t
    ·rw[if_pos hj]at h;cases h;exact hok1
    ·rw[if_neg hj]at h
     cases h2:ck K ((S.rows t i ⟨0,1,-1,0⟩).cols t j ⟨0,1,-1,0⟩)with
     | none=>rw[h2]at h;cases h
     | some S2=>rw[h2]at h;obtain⟨rfl,hok⟩:=Zl h2;cases h;exact hok
theorem Qok {K:Nat} {g:List (List Int)} (h:jk K g=true) (t:Nat):∀ x∈g.getD t [],x.natAbs<256 ^ K:=fun x hx=>by
 by_cases ht:t<g.length
 ·exact of_decide_eq_true (List.all_eq_true.1 (List.all_eq_true.1 h _ (YA ht)) _ hx)
 ·rw[List.getD,List.getElem?_eq_none oq]at hx;cases hx
theorem Qcr {K t:Nat} {g:List (List Int)} (h:jk K g=true):jk K (negR t g)=true:=by
 refine List.all_eq_true.2 fun r hr=>List.all_eq_true.2 fun x hx=>decide_eq_true ?_
 rcases List.mem_or_eq_of_mem_set hr with hr|rfl
 ·exact of_decide_eq_true (List.all_eq_true.1 (List.all_eq_true.1 h _ hr) _ hx)
 ·obtain⟨y,hy,rfl⟩:=List.mem_map.1 hx
  rw[Int.natAbs_neg];exact Qok h t y hy
theorem Qkl {K t:Nat} {g:List (List Int)} (h:jk K g=true):jk K (negC t g)=true:=by
 refine List.all_eq_true.2 fun r hr=>List.all_eq_true.2 fun x hx=>decide_eq_true ?_
 obtain⟨l,hl,rfl⟩:=List.mem_map.1 hr
 have h1:=List.all_eq_true.1 h _ hl
 rcases List.mem_or_eq_of_mem_set hx with hx|rfl
 ·exact of_decide_eq_true (List.all_eq_true.1 h1 _ hx)
 ·rw[Int.natAbs_neg]
  by_cases ht:t<l.length
  ·exact of_decide_eq_true (List.all_eq_true.1 h1 _ (YA ht))
  ·rw[List.getD,List.getElem?_eq_none oq];exact bG K
theorem Q99 {K t:Nat} {S:Sm} (h:Ok K S):Ok K (S.neg t):=⟨Qcr h.u,Qkl h.ui,Qcr h.d,h.v,h.vi⟩
theorem Wa {S:Sm} {t m n i:Nat} (h:Z0 S t m n=some i):t<i∧i<m:=by
 have h1:=List.mem_of_find?_eq_some h
 rw[List.mem_range'_1]at h1
 omega


def aT (k:Int):Tn:=⟨1,k,0,1⟩
def opR (K i j:Nat) (k:Int) (S:Sm):Option Sm:=ck K (S.rows i j (aT k))
def opC (K i j:Nat) (k:Int) (S:Sm):Option Sm:=ck K (S.cols i j (aT k))
def swR (K i j:Nat) (S:Sm):Option Sm:=if i=j then some S else match opR K i j 1 S with
 | none=>none
 | some S1 => match opR K j i (-1) S1 with
  | none=>none
  | some S2=>match opR K i j 1 S2 with
   | none=>none
   | some S3=>some (S3.neg j)
def swC (K i j:Nat) (S:Sm):Option Sm:=if i=j then some S else match opC K i j 1 S with
 | none=>none
 | some S1=>match opC K j i (-1) S1 with
  | none=>none
  | some S2=>opC K i j 1 S2
def iw (a b:Int):Int:=if b=0 then 0 else a / b
def cl1R (K t i:Nat) (S:Sm):Option (Sm × Bool):=match (if iw (gE S.d i t) (gE S.d t t)=0 then some S else opR K i t (-(iw (gE S.d i t) (gE S.d t t))) S)with
 | none=>none
 | some S1=>some (S1,decide (iJ (gE S.d i t) (gE S.d t t)=0))
def cl1C (K t j:Nat) (S:Sm):Option (Sm × Bool):=match (if iw (gE S.d t j) (gE S.d t t)=0 then some S else opC K j t (-(iw (gE S.d t j) (gE S.d t t))) S)with
 | none=>none
 | some S1=>some (S1,decide (iJ (gE S.d t j) (gE S.d t t)=0))
def jM (K t:Nat):Nat→Nat→Bool→Sm→Option (Sm × Bool)
 | 0,_,d,S=>some (S,d)
 | k+1,i,d,S=>match cl1R K t i S with
  | some r=>jM K t k (i+1) (d && r.2) r.1
  | none=>none
def clPC (K t:Nat):Nat→Nat→Bool→Sm→Option (Sm × Bool)
 | 0,_,d,S=>some (S,d)
 | k+1,j,d,S=>match cl1C K t j S with
  | some r=>clPC K t k (j+1) (d && r.2) r.1
  | none=>none
def Q0u (K t m n:Nat) (S:Sm):Option (Sm × Bool):=match jM K t (m-(t+1)) (t+1) true S with
 | none=>none
 | some r=>clPC K t (n-(t+1)) (t+1) r.2 r.1
def gV (S:Sm) (i:Nat) (st:Nat × Nat × Bool) (j:Nat):Nat × Nat × Bool :=
 if gE S.d i j≠0∧(st.2.2=false∨(gE S.d i j).natAbs<(gE S.d st.1 st.2.1).natAbs) then (i,j,true) else st
def Qeg (S:Sm) (t n:Nat) (st:Nat × Nat × Bool) (i:Nat):Nat × Nat × Bool:=(List.range' t (n-t)).foldl (gV S i) st
def ZL (S:Sm) (t m n:Nat):Nat × Nat × Bool:=(List.range' t (m-t)).foldl (Qeg S t n) (0,0,false)
def XI (K t m n:Nat):Nat→Sm→Option Sm
 | 0,_=>none
 | f + 1, S => if (ZL S t m n).2.2 = false then some S else match swR K t (ZL S t m n).1 S with
  | none=>none
  | some S1 => match swC K t (ZL S t m n).2.1 S1 with
   | none=>none
   | some S2 => match Q0u K t m n S2 with
    | none=>none
    | some r => if r.2 = false then XI K t m n f r.1 else match Z0 r.1 t m n with
     | none=>some (if gE r.1.d t t<0 then r.1.neg t else r.1)
     | some k=>match opR K t k 1 r.1 with
      | none=>none
      | some S4=>XI K t m n f S4
def Q1p (K f m n:Nat):Nat→Nat→Sm→Option Sm
 | 0,_,S=>some S
 | k+1,t,S=>match XI K t m n f S with
  | none=>none
  | some S1=>Q1p K f m n k (t+1) S1

theorem Q2w {K i j:Nat} {k:Int} {S S':Sm} (h:opR K i j k S=some S'):S'=S.rows i j (aT k)∧Ok K S':=by
 obtain⟨rfl,hok⟩:=Zl h
 exact⟨rfl,hok⟩
theorem Q69 {K i j:Nat} {k:Int} {S S':Sm} (h:opC K i j k S=some S'):S'=S.cols i j (aT k)∧Ok K S':=by
 obtain⟨rfl,hok⟩:=Zl h
 exact⟨rfl,hok⟩
theorem Qbt {K i j:Nat} {S S':Sm} (hij:i≠j) (h:swR K i j S=some S'):∃ S1 S2 S3,opR K i j 1 S=some S1∧opR K j i (-1) S1=some S2∧opR K i j 1 S2=some S3∧S'=S3.neg j:=by
 unfold swR at h
 rw[if_neg hij]at h
 cases h1:opR K i j 1 S with
 | none=>rw[h1]at h;cases h
 | some S1 =>
  rw[h1]at h
  dsimp only at h
  cases h2:opR K j i (-1) S1 with
  | none=>rw[h2]at h;cases h
  | some S2 =>
   rw[h2]at h
   dsimp only at h
   cases h3:opR K i j 1 S2 with
   | none=>rw[h3]at h;cases h
   | some S3=>rw[h3]at h;exact⟨S1,S2,S3,rfl,h2,h3,(Option.some.inj h).symm⟩
theorem Qbu {K i j:Nat} {S S':Sm} (hij:i≠j) (h:swC K i j S=some S'):∃ S1 S2,opC K i j 1 S=some S1∧opC K j i (-1) S1=some S2∧opC K i j 1 S2=some S':=by
 unfold swC at h
 rw[if_neg hij]at h
 cases h1:opC K i j 1 S with
 | none=>rw[h1]at h;cases h
 | some S1 =>
  rw[h1]at h
  dsimp only at h
  cases h2:opC K j i (-1) S1 with
  | none=>rw[h2]at h;cases h
  | some S2=>rw[h2]at h;exact⟨S1,S2,rfl,h2,h⟩
theorem Qm2 {K i j:Nat} {S S':Sm} (h:swR K i j S=some S') (hb:Ok K S):Ok K S':=by
 by_cases hij:i=j
 ·unfold swR at h;rw[if_pos hij]at h;cases h;exact hb
 ·obtain⟨S1,S2,S3,h1,h2,h3,rfl⟩:=Qbt hij h
  exact Q99 (Q2w h3).2
theorem Qm3 {K i j:Nat} {S S':Sm} (h:swC K i j S=some S') (hb:Ok K S):Ok K S':=by
 by_cases hij:i=j
 ·unfold swC at h;rw[if_pos hij]at h;cases h;exact hb
 ·obtain⟨S1,S2,h1,h2,h3⟩:=Qbu hij h
  exact(Q69 h3).2
theorem Q9t {K t i:Nat} {S:Sm} {r:Sm × Bool} (h:cl1R K t i S=some r):(r.2=decide (iJ (gE S.d i t) (gE S.d t t)=0))∧((iw (gE S.d i t) (gE S.d t t)=0∧r.1=S)∨(iw (gE S.d i t) (gE S.d t t)≠0∧opR K i t (-(iw (gE S.d i t) (gE S.d t t))) S=some r.1)):=by
 unfold cl1R at h
 by_cases h0:iw (gE S.d i t) (gE S.d t t)=0
 ·rw[if_pos h0]at h;cases h;exact⟨rfl,.inl ⟨h0,rfl⟩⟩
 ·rw[if_neg h0]at h
  cases h1:opR K i t (-(iw (gE S.d i t) (gE S.d t t))) S with
  | none=>rw[h1]at h;cases h
  | some S1=>rw[h1]at h;cases h;exact⟨rfl,.inr ⟨h0,rfl⟩⟩
theorem Q9u {K t j:Nat} {S:Sm} {r:Sm × Bool} (h:cl1C K t j S=some r):(r.2=decide (iJ (gE S.d t j) (gE S.d t t)=0))∧((iw (gE S.d t j) (gE S.d t t)=0∧r.1=S)∨(iw (gE S.d t j) (gE S.d t t)≠0∧opC K j t (-(iw (gE S.d t j) (gE S.d t t))) S=some r.1)):=by
 unfold cl1C at h
 by_cases h0:iw (gE S.d t j) (gE S.d t t)=0
 ·rw[if_pos h0]at h;cases h;exact⟨rfl,.inl ⟨h0,rfl⟩⟩
 ·rw[if_neg h0]at h
  cases h1:opC K j t (-(iw (gE S.d t j) (gE S.d t t))) S with
  | none=>rw[h1]at h;cases h
  | some S1=>rw[h1]at h;cases h;exact⟨rfl,.inr ⟨h0,rfl⟩⟩
theorem Qid {K t i:Nat} {S:Sm} {r:Sm × Bool} (h:cl1R K t i S=some r) (hb:Ok K S):Ok K r.1:=by
 rcases(Q9t h).2 with ⟨_,e⟩|⟨_,e⟩
 ·rw[e];exact hb
 ·exact(Q2w e).2
theorem Qie {K t j:Nat} {S:Sm} {r:Sm × Bool} (h:cl1C K t j S=some r) (hb:Ok K S):Ok K r.1:=by
 rcases(Q9u h).2 with ⟨_,e⟩|⟨_,e⟩
 ·rw[e];exact hb
 ·exact(Q69 e).2
theorem Q9r {K t k i:Nat} {d:Bool} {S:Sm} {q:Sm × Bool} (h:jM K t (k+1) i d S=some q):∃ r,cl1R K t i S=some r∧jM K t k (i+1) (d && r.2) r.1=some q:=by
 rw[jM]at h
 cases h1:cl1R K t i S with
 | none=>rw[h1]at h;cases h
 | some r=>rw[h1]at h;exact⟨r,rfl,h⟩
theorem Q9s {K t k i:Nat} {d:Bool} {S:Sm} {q:Sm × Bool} (h:clPC K t (k+1) i d S=some q):∃ r,cl1C K t i S=some r∧clPC K t k (i+1) (d && r.2) r.1=some q:=by
 rw[clPC]at h
 cases h1:cl1C K t i S with
 | none=>rw[h1]at h;cases h
 | some r=>rw[h1]at h;exact⟨r,rfl,h⟩
theorem Qib {K t:Nat}:∀ {k i:Nat} {d:Bool} {S:Sm} {q:Sm × Bool},jM K t k i d S=some q→Ok K S→Ok K q.1
 | 0,_,_,_,_,h,hb=>by rw[jM]at h;cases h;exact hb
 | k+1,_,_,_,_,h,hb=>by
  obtain⟨r,h1,h2⟩:=Q9r h
  exact Qib h2 (Qid h1 hb)
theorem Qic {K t:Nat}:∀ {k i:Nat} {d:Bool} {S:Sm} {q:Sm × Bool},clPC K t k i d S=some q→Ok K S→Ok K q.1
 | 0,_,_,_,_,h,hb=>by rw[clPC]at h;cases h;exact hb
 | k+1,_,_,_,_,h,hb=>by
  obtain⟨r,h1,h2⟩:=Q9s h
  exact Qic h2 (Qie h1 hb)
theorem Q32 {K t m n:Nat} {S:Sm} {q:Sm × Bool} (h:Q0u K t m n S=some q):∃ r,jM K t (m-(t+1)) (t+1) true S=some r∧clPC K t (n-(t+1)) (t+1) r.2 r.1=some q:=by
 unfold Q0u at h
 cases h1:jM K t (m-(t+1)) (t+1) true S with
 | none=>rw[h1]at h;cases h
 | some r=>rw[h1]at h;exact⟨r,rfl,h⟩
theorem Q6m {K t m n:Nat} {S:Sm} {q:Sm × Bool} (h:Q0u K t m n S=some q) (hb:Ok K S):Ok K q.1:=by
 obtain⟨r,h1,h2⟩:=Q32 h
 exact Qic h2 (Qib h1 hb)
theorem Q48 {K t m n f:Nat} {S S':Sm} (h:XI K t m n (f+1) S=some S') (hl:(ZL S t m n).2.2=true):∃ S1 S2 r,swR K t (ZL S t m n).1 S=some S1∧swC K t (ZL S t m n).2.1 S1=some S2∧Q0u K t m n S2=some r∧(r.2=false→XI K t m n f r.1=some S') ∧
  (r.2=true→(Z0 r.1 t m n=none∧S'=if gE r.1.d t t<0 then r.1.neg t else r.1)∨∃ k S4,Z0 r.1 t m n=some k∧opR K t k 1 r.1=some S4∧XI K t m n f S4=some S'):=by
 rw[XI,if_neg (by rw[hl];simp)]at h
 cases h1:swR K t (ZL S t m n).1 S with
 | none=>rw[h1]at h;cases h
 | some S1 =>
  rw[h1]at h
  dsimp only at h
  cases h2:swC K t (ZL S t m n).2.1 S1 with
  | none=>rw[h2]at h;cases h
  | some S2 =>
   rw[h2]at h
   dsimp only at h
   cases h3:Q0u K t m n S2 with
   | none=>rw[h3]at h;cases h
   | some r =>
    rw[h3]at h
    dsimp only at h
    refine⟨S1,S2,r,rfl,h2,h3,fun hr=>?_,fun hr=>?_⟩
    ·rw[if_pos hr]at h;exact h
    ·rw[if_neg (by rw[hr];simp)]at h
     cases h4:Z0 r.1 t m n with
     | none=>rw[h4]at h;exact .inl ⟨rfl,(Option.some.inj h).symm⟩
     | some k =>
      rw[h4]at h
      dsimp only at h
      cases h5:opR K t k 1 r.1 with
      | none=>rw[h5]at h;cases h
      | some S4=>rw[h5]at h;exact .inr ⟨k,S4,rfl,h5,h⟩
theorem Q6g {K f m n k t:Nat} {S S':Sm} (h:Q1p K f m n (k+1) t S=some S'):∃ S1,XI K t m n f S=some S1∧Q1p K f m n k (t+1) S1=some S':=by
 rw[Q1p]at h
 cases h1:XI K t m n f S with
 | none=>rw[h1]at h;cases h
 | some S1=>rw[h1]at h;exact⟨S1,rfl,h⟩
theorem Qov {S:Sm} {i j m n:Nat} {st:Nat × Nat × Bool} (hi:i<m) (hj:j<n) (h:st.2.2=true→st.1<m∧st.2.1<n):(gV S i st j).2.2=true→(gV S i st j).1<m∧(gV S i st j).2.1<n:=by
 unfold gV
 split
 ·exact fun _=>⟨hi,hj⟩
 ·exact h
theorem Qd0 {S:Sm} {i m n:Nat} (hi:i<m):∀ (l:List Nat),(∀ j∈l,j<n)→∀ (st:Nat × Nat × Bool),(st.2.2=true→st.1<m∧st.2.1<n)→((l.foldl (gV S i) st).2.2=true→(l.foldl (gV S i) st).1<m∧(l.foldl (gV S i) st).2.1<n)
 | [],_,_,h=>h
 | j::l,hl,st,h=>Qd0 hi l (fun x hx=>hl x (Ve _ hx)) _ (Qov hi (hl j (Vh ..)) h)
theorem Qd3 {S:Sm} {t m n:Nat}:∀ (l:List Nat),(∀ i∈l,i<m)→∀ (st:Nat × Nat × Bool),(st.2.2=true→st.1<m∧st.2.1<n)→((l.foldl (Qeg S t n) st).2.2=true→(l.foldl (Qeg S t n) st).1<m∧(l.foldl (Qeg S t n) st).2.1<n)
 | [],_,_,h=>h
 | i::l,hl,st,h=>Qd3 l (fun x hx=>hl x (Ve _ hx)) _ (Qd0 (hl i (Vh ..)) _ (fun j hj=>by rw[List.mem_range'_1]at hj;omega) st h)
theorem Qhh {S:Sm} {t m n:Nat} (h:(ZL S t m n).2.2=true):(ZL S t m n).1<m∧(ZL S t m n).2.1<n :=
 Qd3 _ (fun i hi=>by rw[List.mem_range'_1]at hi;omega) _ (fun h=>by cases h) h


def WV.bZ (W:WV):Array Value:=#[W.u,W.ui,W.d,W.v,W.vi]
def bf (b:Nat) (W:WV) (T:WT):aj:=(b,.cells W.bZ 125)::(W.Nu++(tH T.u++(W.fB++(tH T.ui++(W.Nd++(tH T.d++(W.Nv++(tH T.v++(W.fG++(tH T.vi++[]))))))))))
theorem WG {b m n:Nat} {W:WV} {T T':WT} {S S':Sm} (h:dw W m n T S) (h':dw W m n T' S') (hV:bK T T'):keys (bf b W T')=keys (bf b W T):=by
 unfold bf
 simp only[keys,List.map_cons,Vl]
 have e1:=h.u.keys h'.u hV.u
 have e2:=h.ui.keys h'.ui hV.ui
 have e3:=h.d.keys h'.d hV.d
 have e4:=h.v.keys h'.v hV.v
 have e5:=h.vi.keys h'.vi hV.vi
 unfold keys at e1 e2 e3 e4 e5
 rw[e1,e2,e3,e4,e5]
theorem bK.trans {T T1 T2:WT} (h:bK T T1) (k:bK T1 T2):bK T T2:=⟨fun a=>(k.u a).trans (h.u a),fun a=>(k.ui a).trans (h.ui a),fun a=>(k.d a).trans (h.d a),fun a=>(k.v a).trans (h.v a),fun a=>(k.vi a).trans (h.vi a)⟩
def jf (b:Nat) (W:WV) (m n:Nat) (T:WT) (S':Sm) (w w':World):Prop :=
 Kp (keys (bf b W T)) w w'∧∃ T',keys (bf b W T')=keys (bf b W T)∧InW (bf b W T') w'∧dw W m n T' S'∧bK T T'
theorem jf.of {b:Nat} {W:WV} {m n:Nat} {T T1:WT} {S2:Sm} {w w':World} (h:jf b W m n T1 S2 w w') (hV:bK T T1):∃ T2,keys (bf b W T2)=keys (bf b W T1)∧InW (bf b W T2) w'∧dw W m n T2 S2∧bK T T2:=by
 obtain⟨_,T2,h1,h2,h3,h4⟩:=h
 exact⟨T2,h1,h2,h3,hV.trans h4⟩

theorem fM.addR {N:aj} {v:Value} {r c i j:Nat} {k:Int} {ts ts':List TR} {g:List (List Int)} (h:fM N v r c ts g) (hi:i<r) (hj:j<r) (hij:i≠j) (hT:bY N v c ts') (hl:ts'.length=ts.length)
  (e:∀ a b,tM ts' a b=if a=i∧b<c then tM ts i b+k*tM ts j b else tM ts a b):fM N v r c ts' (XJ i j (aT k) g) :=
 h.of hT hl (h.rc.rows hi hj) fun a b ha hb=>by
  rw[e,Wj h.rc hi hj hb,h.at,h.at,h.at]
  unfold Tn.p Tn.q aT
  dsimp only
  by_cases e1:a=j
  ·rw[if_pos e1,if_neg oq,e1];omega
  ·rw[if_neg e1]
   by_cases e2:a=i
   ·rw[if_pos ⟨e2,hb⟩,if_pos e2];omega
   ·rw[if_neg oq,if_neg e2]
theorem fM.addC {N:aj} {v:Value} {r c i j:Nat} {k:Int} {ts ts':List TR} {g:List (List Int)} (h:fM N v r c ts g) (hi:i<c) (hj:j<c) (hij:i≠j) (hT:bY N v c ts') (hl:ts'.length=ts.length)
  (e:∀ a b,tM ts' a b=if a<ts.length∧b=i then tM ts a i+k*tM ts a j else tM ts a b):fM N v r c ts' (Xq i j (aT k) g) :=
 h.of hT hl h.rc.cols fun a b ha hb=>by
  rw[e,Wk h.rc hi hj ha,h.at,h.at,h.at,h.len]
  unfold Tn.p Tn.q aT
  dsimp only
  by_cases e1:b=j
  ·rw[if_pos e1,if_neg oq,e1];omega
  ·rw[if_neg e1]
   by_cases e2:b=i
   ·rw[if_pos ⟨ha,e2⟩,if_pos e2];omega
   ·rw[if_neg oq,if_neg e2]
theorem fM.addR' {N:aj} {v:Value} {r c i j:Nat} {k:Int} {ts ts':List TR} {g:List (List Int)} (h:fM N v r c ts g) (hi:i<r) (hj:j<r) (hij:i≠j) (hT:bY N v c ts') (hl:ts'.length=ts.length)
  (e:∀ a b,tM ts' a b=if a=j∧b<c then tM ts j b + -k*tM ts i b else tM ts a b):fM N v r c ts' (XJ i j (aT k).flip g) :=
 h.of hT hl (h.rc.rows hi hj) fun a b ha hb=>by
  rw[e,Wj h.rc hi hj hb,h.at,h.at,h.at]
  unfold Tn.p Tn.q Tn.flip aT
  dsimp only
  by_cases e1:a=j
  ·rw[if_pos ⟨e1,hb⟩,if_pos e1];omega
  ·rw[if_neg oq,if_neg e1]
   by_cases e2:a=i
   ·rw[if_pos e2,e2];omega
   ·rw[if_neg e2]
theorem fM.addC' {N:aj} {v:Value} {r c i j:Nat} {k:Int} {ts ts':List TR} {g:List (List Int)} (h:fM N v r c ts g) (hi:i<c) (hj:j<c) (hij:i≠j) (hT:bY N v c ts') (hl:ts'.length=ts.length)
  (e:∀ a b,tM ts' a b=if a<ts.length∧b=j then tM ts a j + -k*tM ts a i else tM ts a b):fM N v r c ts' (Xq i j (aT k).flip g) :=
 h.of hT hl h.rc.cols fun a b ha hb=>by
  rw[e,Wk h.rc hi hj ha,h.at,h.at,h.at,h.len]
  unfold Tn.p Tn.q Tn.flip aT
  dsimp only
  by_cases e1:b=j
  ·rw[if_pos ⟨ha,e1⟩,if_pos e1];omega
  ·rw[if_neg oq,if_neg e1]
   by_cases e2:b=i
   ·rw[if_pos e2,e2];omega
   ·rw[if_neg e2]

theorem Q9v (K:Nat) (w:World) (b:Nat) (W:WV) (m n:Nat) (T:WT) (S:Sm) (i j:Nat) (k:Int) (hW:dw W m n T S) (hs:aI (bf b W T) w) (hi:i<m) (hj:j<m) (hij:i≠j) (hm:m≤200) (hn:n≤200)
  (hK:K≤490000000000) (hk:k.natAbs<256 ^ K) (hb:Ok K S) :
  Calls Tryz.prog 110 #[.pointer (some ⟨b,0,none⟩),nv i,nv j,Wv k] w (aP fun _ w'=>jf b W m n T (S.rows i j (aT k)) w w'):=by
 have hM:=Zk hs
 refine Q9 [⟨1,1,[],[]⟩,⟨2,1,[],[]⟩] (keys (bf b W T)) hM (bf b W T) Tryz.func110 rfl mixed (by kernel_rfl) Tryz.ntmps110 Tryz.results110 rfl hs (fun p hp=>List.mem_map.2 ⟨p,hp,rfl⟩) ?_
 simp only[toS,Qd,Qt,Qk,Ql,ay,Qg,QA,aC]
 have hlu:=hW.u.len
 have hlui:=hW.ui.len
 have hld:=hW.d.len
 unfold bf
 repeat' first|apply jS|apply jO|apply jD|apply jN|refine Q1 ?_|refine Q3 ?_|refine Qb ?_|refine Q7 ?_|refine Qz (h:=?_)|refine QB fun _=>?_|apply jT
 rename_i b7
 refine Xx (A:=(b7,.cells (wc k) 35)::(b,.cells W.bZ 125)::(W.Nu++(tH T.u++(W.fB++tH T.ui)))) (B:=W.Nv++(tH T.v++(W.fG++(tH T.vi++[])))) (by simp only[Vi,Vv,Vd]) aA rfl aH rfl (fun w hs=>Q89 K w W.d W.Nd T.d n i j k hW.d.T hs oq oq hij oq hn hK hk (fun x y=>by rw[hW.d.at];exact Zp hb.d x y)) (fun _ d' hTd hld' hVd hMd=>?_)
 simp only[Vi,Vv,Vd]
 repeat' first|apply jS|apply jD|apply jN|refine Q1 ?_|refine Q3 ?_|refine Qb ?_|refine Q7 ?_|refine Qz (h:=?_)|apply jT
 refine Xx (A:=[(b7,.cells (wc k) 35),(b,.cells W.bZ 125)]) (B:=W.fB++(tH T.ui++(W.Nd++(tH d'++(W.Nv++(tH T.v++(W.fG++(tH T.vi++[])))))))) (by simp only[Vi,Vv,Vd]) aA rfl aH rfl (fun w hs=>Q89 K w W.u W.Nu T.u m i j k hW.u.T hs oq oq hij oq hm hK hk (fun x y=>by rw[hW.u.at];exact Zp hb.u x y)) (fun _ u' jL hlu' hVu hMu=>?_)
 simp only[Vi,Vv,Vd]
 repeat' first|apply jN|apply jT
 refine Z7 [(b7,.cells (wc k) 35),(b,.cells W.bZ 125)] Qy ?_
 repeat' first|refine Q1 ?_|refine Q3 ?_|refine Qb ?_|refine Q7 ?_|refine Qz (h:=?_)|fail
 refine Q5 aA rfl aH rfl (fun w _ _=>Q33 w _ k K (Qi hk) oq) fun w v w' _ _ _ hR=>?_
 subst hR
 skip
 refine Q1f (A:=(b7,.cells (wc k) 35)::(b,.cells W.bZ 125)::(W.Nu++tH u')) (B:=W.Nd++(tH d'++(W.Nv++(tH T.v++(W.fG++(tH T.vi++[])))))) (by simp only[Vi,Vv,Vd]) Qy rfl aH rfl (fun w hs=>Q8a K w W.ui W.fB T.ui m j i (-k) hW.ui.T hs oq oq (fun e=>hij e.symm) oq hm hK (by rw[Int.natAbs_neg];exact hk) (fun x y=>by rw[hW.ui.at];exact Zp hb.ui x y)) (fun _ w' hTw hlw hVw hMw=>?_)
 simp only[Vi,Vv,Vd]
 repeat' first|apply jN
 have hW':dw W m n ⟨u',w',d',T.v,T.vi⟩ (S.rows i j (aT k)):=⟨hW.u.addR hi hj hij jL hlu' hMu,hW.ui.addC' hi hj hij hTw hlw hMw,hW.d.addR hi hj hij hTd hld' hMd,hW.v,hW.vi⟩
 have hV':bK T ⟨u',w',d',T.v,T.vi⟩:=⟨hVu,hVw,hVd,fun _=>rfl,fun _=>rfl⟩
 exact Yq (fun a w'' st=>⟨st.kp,_,WG hW hW' hV',fun p hp=>st.hs.blk p (by unfold bf at hp;exact Ve _ hp),hW',hV'⟩)

theorem Qdl (K:Nat) (w:World) (b:Nat) (W:WV) (m n:Nat) (T:WT) (S:Sm) (i j:Nat) (k:Int) (hW:dw W m n T S) (hs:aI (bf b W T) w) (hi:i<n) (hj:j<n) (hij:i≠j) (hm:m≤200) (hn:n≤200)
  (hK:K≤490000000000) (hk:k.natAbs<256 ^ K) (hb:Ok K S) :
  Calls Tryz.prog 138 #[.pointer (some ⟨b,0,none⟩),nv i,nv j,Wv k] w (aP fun _ w'=>jf b W m n T (S.cols i j (aT k)) w w'):=by
 have hM:=Zk hs
 refine Q9 [⟨1,1,[],[]⟩,⟨2,1,[],[]⟩] (keys (bf b W T)) hM (bf b W T) Tryz.func138 rfl mixed (by kernel_rfl) Tryz.ntmps138 Tryz.results138 rfl hs (fun p hp=>List.mem_map.2 ⟨p,hp,rfl⟩) ?_
 simp only[toS,Qd,Qt,Qk,Ql,ay,Qg,QA,aC]
 have hlv:=hW.v.len
 have hlvi:=hW.vi.len
 have hld:=hW.d.len
 unfold bf
 repeat' first|apply jS|apply jO|apply jD|apply jN|refine Q1 ?_|refine Q3 ?_|refine Qb ?_|refine Q7 ?_|refine Qz (h:=?_)|refine QB fun _=>?_|apply jT
 rename_i b7
 refine Xx (A:=(b7,.cells (wc k) 35)::(b,.cells W.bZ 125)::(W.Nu++(tH T.u++(W.fB++tH T.ui)))) (B:=W.Nv++(tH T.v++(W.fG++(tH T.vi++[])))) (by simp only[Vi,Vv,Vd]) aA rfl aH rfl (fun w hs=>Q8a K w W.d W.Nd T.d n i j k hW.d.T hs oq oq hij oq hn hK hk (fun x y=>by rw[hW.d.at];exact Zp hb.d x y)) (fun _ d' hTd hld' hVd hMd=>?_)
 simp only[Vi,Vv,Vd]
 repeat' first|apply jS|apply jD|apply jN|refine Q1 ?_|refine Q3 ?_|refine Qb ?_|refine Q7 ?_|refine Qz (h:=?_)|apply jT
 refine Xx (A:=(b7,.cells (wc k) 35)::(b,.cells W.bZ 125)::(W.Nu++(tH T.u++(W.fB++(tH T.ui++(W.Nd++tH d')))))) (B:=W.fG++(tH T.vi++[])) (by simp only[Vi,Vv,Vd]) aA rfl aH rfl (fun w hs=>Q8a K w W.v W.Nv T.v n i j k hW.v.T hs oq oq hij oq hn hK hk (fun x y=>by rw[hW.v.at];exact Zp hb.v x y)) (fun _ v' hTv hlv' hVv hMv=>?_)
 simp only[Vi,Vv,Vd]
 repeat' first|apply jN|apply jT
 refine Z7 [(b7,.cells (wc k) 35),(b,.cells W.bZ 125)] Qy ?_
 repeat' first|refine Q1 ?_|refine Q3 ?_|refine Qb ?_|refine Q7 ?_|refine Qz (h:=?_)|fail
 refine Q5 aA rfl aH rfl (fun w _ _=>Q33 w _ k K (Qi hk) oq) fun w v w' _ _ _ hR=>?_
 subst hR
 skip
 refine Q1f (A:=(b7,.cells (wc k) 35)::(b,.cells W.bZ 125)::(W.Nu++(tH T.u++(W.fB++(tH T.ui++(W.Nd++(tH d'++(W.Nv++tH v')))))))) (B:=[]) (by simp only[Vi,Vv,Vd]) Qy rfl aH rfl (fun w hs=>Q89 K w W.vi W.fG T.vi n j i (-k) hW.vi.T hs oq oq (fun e=>hij e.symm) oq hn hK (by rw[Int.natAbs_neg];exact hk) (fun x y=>by rw[hW.vi.at];exact Zp hb.vi x y)) (fun _ w' hTw hlw hVw hMw=>?_)
 simp only[Vi,Vv,Vd]
 repeat' first|apply jN
 have hW':dw W m n ⟨T.u,T.ui,d',v',w'⟩ (S.cols i j (aT k)):=⟨hW.u,hW.ui,hW.d.addC hi hj hij hTd hld' hMd,hW.v.addC hi hj hij hTv hlv' hMv,hW.vi.addR' hi hj hij hTw hlw hMw⟩
 have hV':bK T ⟨T.u,T.ui,d',v',w'⟩:=⟨fun _=>rfl,fun _=>rfl,hVd,hVv,hVw⟩
 exact Yq (fun a w'' st=>⟨st.kp,_,WG hW hW' hV',fun p hp=>st.hs.blk p (by unfold bf at hp;exact Ve _ hp),hW',hV'⟩)


theorem Qmq (K:Nat) (w:World) (b:Nat) (W:WV) (m n:Nat) (T:WT) (S:Sm) (t:Nat) (hW:dw W m n T S) (hs:aI (bf b W T) w) (gB:t<m) (hm:m≤200) (hn:n≤200)
  (hK:K≤220000000000) (hb:Ok K S) :
  Calls Tryz.prog 109 #[.pointer (some ⟨b,0,none⟩),nv t] w (aP fun _ w'=>jf b W m n T (S.neg t) w w'):=by
 have hM:=Zk hs
 have hld:=hW.d.len
 have hlu:=hW.u.len
 have hlui:=hW.ui.len
 have hTd:=hW.d.T
 have jL:=hW.u.T
 have jm:=hW.ui.T
 have hVd:∀ a,tv T.d a=tv T.d a:=fun _=>rfl
 have hVu:∀ a,tv T.u a=tv T.u a:=fun _=>rfl
 have jo:∀ a,tv T.ui a=tv T.ui a:=fun _=>rfl
 refine Q9 [⟨3,2,[],[]⟩,⟨7,2,[],[]⟩,⟨8,2,[],[]⟩] (keys (bf b W T)) hM (bf b W T) Tryz.func109 rfl mixed (by kernel_rfl) Tryz.ntmps109 Tryz.results109 rfl hs (fun p hp=>List.mem_map.2 ⟨p,hp,rfl⟩) ?_
 simp only[toS,Qd,Qt,Qk,Ql,ay,Qg,QA,aC]
 unfold bf
 repeat' first|apply jS|apply jO|apply jN|apply jT|refine Q0 ?_|apply jB
 refine Qp (ι:=Nat × List TR) ⟨fun z=>[(4,nv z.1),(0,.pointer (some ⟨b,0,none⟩)),(1,nv t)],fun z=>(b,.cells W.bZ 125)::(W.Nu++(tH T.u++(W.fB++(tH T.ui++(W.Nd++(tH z.2++(W.Nv++(tH T.v++(W.fG++(tH T.vi++[])))))))))),
  fun z=>z.1≤n∧bY W.Nd W.d n z.2∧z.2.length=m∧(∀ a,tv z.2 a=tv T.d a)∧∀ a c,tM z.2 a c=if a=t∧c<z.1 then -(tM T.d a c) else tM T.d a c,fun z=>n-z.1⟩ (0,T.d)
  ⟨by omega,hTd,hld,hVd,fun a c=>by rw[if_neg oq]⟩ aF (HSub.refl _) (fun z hz=>?_)
 clear hTd hVd
 obtain⟨c,d1⟩:=z
 obtain⟨hcn,hTd,hld1,hVd,hMd⟩:=hz
 dsimp only at hcn hTd hld1 hVd hMd ⊢
 by_cases hlt:c<n
 ·have e1:tM d1 t c=tM T.d t c:=by rw[hMd,if_neg oq]
  repeat' first|apply jS|apply jO|apply jD|apply jN|apply jT|refine Q1 ?_|refine Q3 ?_|refine Qb ?_|refine Ym (h:=?_)|refine QW (h:=?_)|refine Zo (h:=?_)|refine Y2 (h:=?_)|refine Yc (h:=?_)|refine Qz (h:=?_)|(refine Qs (h1:=?_) (h2:=?_)<;>intro hc<;>try omega)|apply jK|refine Q8 rfl ?_|apply jB
  refine Q5 aA rfl aH rfl (fun w _ _=>Q33 w _ (tM d1 t c) K (Qi (by rw[e1];exact Q1i hW.d hb.d t c)) oq) fun w v w' _ _ _ hR=>?_
  rw[e1]at hR
  subst hR
  repeat' first|refine QW (h:=?_)|fail
  refine Wr (A:=(b,.cells W.bZ 125)::(W.Nu++(tH T.u++(W.fB++tH T.ui)))) (B:=W.Nv++(tH T.v++(W.fG++(tH T.vi++[])))) (i:=t) (j:=c) (V:=tv T.d) (u := -(tM T.d t c)) hVd hTd (by simp only[Vi,Vv,Vd]) rfl aA rfl rfl oq hlt (fun d2 hT2 hl2 hV2 hM2=>?_)
  simp only[Vi,Vv,Vd]
  repeat' first|apply jO|apply jN|apply jT|refine Q1 ?_|refine Q0 ?_|refine Qj ?_|apply jW
  refine Qa (c+1,d2) ⟨by dsimp only;omega,hT2,by dsimp only;omega,hV2,fun a x=>?_⟩ aY aF (HSub.refl _)
  dsimp only
  rw[hM2,hMd]
  by_cases h1:a=t∧x=c
  ·obtain⟨rfl,rfl⟩:=h1
   rw[if_pos ⟨rfl,rfl⟩,if_pos ⟨rfl,by omega⟩]
  ·rw[if_neg h1]
   have e2:(a=t∧x<c+1)↔(a=t∧x<c):=by omega
   simp only[e2]
 ·obtain rfl:c=n:=by omega
  repeat' first|apply jS|apply jO|apply jN|apply jT|refine Q1 ?_|refine Q3 ?_|refine Q0 ?_|refine Qb ?_|refine Ym (h:=?_)|refine Zo (h:=?_)|refine Yc (h:=?_)|refine Qz (h:=?_)|(refine Qs (h1:=?_) (h2:=?_)<;>intro hc<;>try omega)|apply jU|apply jE|refine Q4 rfl ?_|apply jB|apply Qe
  refine Qp (ι:=Nat × List TR × List TR) ⟨fun z=>[(5,nv z.1),(0,.pointer (some ⟨b,0,none⟩)),(1,nv t)],fun z=>(b,.cells W.bZ 125)::(W.Nu++(tH z.2.1++(W.fB++(tH z.2.2++(W.Nd++(tH d1++(W.Nv++(tH T.v++(W.fG++(tH T.vi++[])))))))))),
   fun z=>z.1≤m∧(bY W.Nu W.u m z.2.1∧z.2.1.length=m∧(∀ a,tv z.2.1 a=tv T.u a)∧∀ a x,tM z.2.1 a x=if a=t∧x<z.1 then -(tM T.u a x) else tM T.u a x)∧(bY W.fB W.ui m z.2.2∧z.2.2.length=m∧(∀ a,tv z.2.2 a=tv T.ui a)∧∀ a x,tM z.2.2 a x=if x=t∧a<z.1 then -(tM T.ui a x) else tM T.ui a x),fun z=>m-z.1⟩ (0,T.u,T.ui)
   ⟨by omega,⟨jL,hlu,hVu,fun a c=>by rw[if_neg oq]⟩,⟨jm,hlui,jo,fun a c=>by rw[if_neg oq]⟩⟩ aF (HSub.refl _) (fun z hz=>?_)
  clear jL hVu jm jo
  obtain⟨k,u1,v1⟩:=z
  obtain⟨hkm,⟨jL,hlu1,hVu,hMu⟩,⟨jm,hlui1,jo,hMui⟩⟩:=hz
  dsimp only at hkm jL hlu1 hVu hMu jm hlui1 jo hMui ⊢
  by_cases hlk:k<m
  ·have e1:tM u1 t k=tM T.u t k:=by rw[hMu,if_neg oq]
   have e2:tM v1 k t=tM T.ui k t:=by rw[hMui,if_neg oq]
   repeat' first|apply jS|apply jO|apply jD|apply jN|apply jT|refine Q1 ?_|refine Q3 ?_|refine Qb ?_|refine Ym (h:=?_)|refine QW (h:=?_)|refine Zo (h:=?_)|refine Y2 (h:=?_)|refine Yc (h:=?_)|refine Qz (h:=?_)|(refine Qs (h1:=?_) (h2:=?_)<;>intro hc<;>try omega)|apply jK|refine Q8 rfl ?_|apply jB
   refine Q5 aA rfl aH rfl (fun w _ _=>Q33 w _ (tM u1 t k) K (Qi (by rw[e1];exact Q1i hW.u hb.u t k)) oq) fun w v w' _ _ _ hR=>?_
   rw[e1]at hR
   subst hR
   repeat' first|refine QW (h:=?_)|fail
   refine Wr (A:=[(b,.cells W.bZ 125)]) (B:=W.fB++(tH v1++(W.Nd++(tH d1++(W.Nv++(tH T.v++(W.fG++(tH T.vi++[])))))))) (i:=t) (j:=k) (V:=tv T.u) (u := -(tM T.u t k)) hVu jL rfl rfl aA rfl rfl oq hlk (fun u2 hT2 hl2 hV2 hM2=>?_)
   simp only[Vi,Vv,Vd]
   repeat' first|apply jD|apply jN|refine Q1 ?_|refine Q3 ?_|refine Qb ?_|refine QW (h:=?_)|refine Zo (h:=?_)|refine Y2 (h:=?_)|refine Yc (h:=?_)|refine Qz (h:=?_)|apply jT
   refine Q5 aA rfl aH rfl (fun w _ _=>Q33 w _ (tM v1 k t) K (Qi (by rw[e2];exact Q1i hW.ui hb.ui k t)) oq) fun w v w' _ _ _ hR=>?_
   rw[e2]at hR
   subst hR
   repeat' first|refine QW (h:=?_)|fail
   refine Wr (A:=(b,.cells W.bZ 125)::(W.Nu++tH u2)) (B:=W.Nd++(tH d1++(W.Nv++(tH T.v++(W.fG++(tH T.vi++[])))))) (i:=k) (j:=t) (V:=tv T.ui) (u := -(tM T.ui k t)) jo jm (by simp only[Vi,Vv,Vd]) rfl aA rfl rfl oq gB (fun v2 hT3 hl3 hV3 hM3=>?_)
   simp only[Vi,Vv,Vd]
   repeat' first|apply jO|apply jN|apply jT|refine Q1 ?_|refine Q0 ?_|refine Qj ?_|apply jW
   refine Qa (k+1,u2,v2) ⟨by dsimp only;omega,⟨hT2,by dsimp only;omega,hV2,fun a x=>?_⟩,⟨hT3,by dsimp only;omega,hV3,fun a x=>?_⟩⟩ aY aF (HSub.refl _)
   ·dsimp only
    rw[hM2,hMu]
    by_cases h1:a=t∧x=k
    ·obtain⟨rfl,rfl⟩:=h1
     rw[if_pos ⟨rfl,rfl⟩,if_pos ⟨rfl,by omega⟩]
    ·rw[if_neg h1]
     have e2:(a=t∧x<k+1)↔(a=t∧x<k):=by omega
     simp only[e2]
   ·dsimp only
    rw[hM3,hMui]
    by_cases h1:a=k∧x=t
    ·obtain⟨rfl,rfl⟩:=h1
     rw[if_pos ⟨rfl,rfl⟩,if_pos ⟨rfl,by omega⟩]
    ·rw[if_neg h1]
     have e2:(x=t∧a<k+1)↔(x=t∧a<k):=by omega
     simp only[e2]
  ·obtain rfl:k=m:=by omega
   repeat' first|apply jS|apply jO|apply jN|apply jT|refine Q1 ?_|refine Q3 ?_|refine Qb ?_|refine Ym (h:=?_)|refine Zo (h:=?_)|refine Yc (h:=?_)|refine Qz (h:=?_)|(refine Qs (h1:=?_) (h2:=?_)<;>intro hc<;>try omega)|apply jU|apply jE|refine Q4 rfl ?_|apply Qe
   have a1:fM W.Nu W.u k k u1 (negR t S.u):=hW.u.of jL oq (hW.u.rc.negR gB) (fun x y hx hy=>by
    rw[hMu,Q7t hW.u.rc gB hy,hW.u.at]
    have e:(x=t∧y<k)↔x=t:=by omega
    simp only[e])
   have a2:fM W.fB W.ui k k v1 (negC t S.ui):=hW.ui.of jm oq hW.ui.rc.negC (fun x y hx hy=>by
    rw[hMui,Qhn hW.ui.rc gB hx,hW.ui.at]
    have e:(y=t∧x<k)↔y=t:=by omega
    simp only[e])
   have a3:fM W.Nd W.d k c d1 (negR t S.d):=hW.d.of hTd oq (hW.d.rc.negR gB) (fun x y hx hy=>by
    rw[hMd,Q7t hW.d.rc gB hy,hW.d.at]
    have e:(x=t∧y<c)↔x=t:=by omega
    simp only[e])
   have hW':dw W k c ⟨u1,v1,d1,T.v,T.vi⟩ (S.neg t):=⟨a1,a2,a3,hW.v,hW.vi⟩
   have hV':bK T ⟨u1,v1,d1,T.v,T.vi⟩:=⟨hVu,jo,hVd,fun _=>rfl,fun _=>rfl⟩
   exact Yq (fun a w'' st=>⟨st.kp,_,WG hW hW' hV',fun p hp=>st.hs.blk p hp,hW',hV'⟩)

theorem Qpm (K:Nat) (w:World) (b:Nat) (W:WV) (m n:Nat) (T:WT) (S S':Sm) (i j:Nat) (hW:dw W m n T S) (hs:aI (bf b W T) w) (hi:i<m) (hj:j<m) (hm:m≤200) (hn:n≤200)
  (hK:K+1≤220000000000) (hb:Ok (K+1) S) (h:swR (K+1) i j S=some S') :
  Calls Tryz.prog 105 #[.pointer (some ⟨b,0,none⟩),nv i,nv j] w (aP fun _ w'=>jf b W m n T S' w w'):=by
 have hM:=Zk hs
 have hS0:=bK.refl T
 refine Q9 [] (keys (bf b W T)) hM (bf b W T) Tryz.func105 rfl mixed (by kernel_rfl) Tryz.ntmps105 Tryz.results105 rfl hs (fun p hp=>List.mem_map.2 ⟨p,hp,rfl⟩) ?_
 simp only[toS,Qd,Qt,Qk,Ql,ay,Qg,QA,aC]
 by_cases hij:i=j
 ·unfold swR at h
  rw[if_pos hij]at h
  obtain rfl:=Option.some.inj h
  subst hij
  repeat' first|apply jS|apply jO|apply jN|apply jT|refine Q1 ?_|(refine Z9 (h1:=?_) (h2:=?_)<;>intro hc<;>try omega)|apply jV|apply jR|refine Q8 rfl ?_
  exact Qdy (fun a w'' st=>⟨st.kp,T,rfl,fun p hp=>st.hs.blk p hp,hW,hS0⟩)
 ·obtain⟨S1,S2,S3,h1,h2,h3,rfl⟩:=Qbt hij h
  obtain⟨rfl,hb1⟩:=Q2w h1
  obtain⟨rfl,hb2⟩:=Q2w h2
  obtain⟨rfl,hb3⟩:=Q2w h3
  clear h h1 h2 h3
  repeat' first|apply jS|apply jO|apply jN|apply jT|refine Q1 ?_|(refine Z9 (h1:=?_) (h2:=?_)<;>intro hc<;>try omega)|apply jK|refine Q4 rfl ?_
  refine Q5 aA rfl aH rfl (fun w _ _=>XF w 1 dq dq) fun w v w' _ _ _ hR=>?_
  subst hR
  repeat' first|refine Q2 ?_|refine Qc fun _=>?_|refine Q2 ?_|apply jN
  rename_i b6
  apply QE
  repeat' first|apply jS|apply jO
  refine Q5 aA rfl aH rfl (fun w _ _=>XF w (-1) dq dq) fun w v w' _ _ _ hR=>?_
  subst hR
  repeat' first|refine Q2 ?_|refine Qc fun _=>?_|refine Q2 ?_|apply jN
  rename_i b7
  refine JX.part (F':=[(7,.pointer (some ⟨b7,0,none⟩)),(6,.pointer (some ⟨b6,0,none⟩)),(0,.pointer (some ⟨b,0,none⟩)),(1,nv i),(2,nv j)]) (H':=[(b7,.cells (wc (-1)) 35),(b6,.cells (wc 1) 35)]++(bf b W T++[])) aF (by rw[Vj];exact HSub.refl _) ?_
  apply QE
  repeat' first|apply jS|refine Q1 ?_|refine Q7 ?_|apply jO
  refine Z2 (A:=[(b7,.cells (wc (-1)) 35),(b6,.cells (wc 1) 35)]) (N:=bf b W T) (B:=[]) (R:=fun w _ w'=>jf b W m n T (S.rows i j (aT 1)) w w') rfl aA rfl aH rfl (fun w _ hs=>QN (Q9v (K+1) w b W m n T (S) i j 1 hW (HSub.bU (by exact HSub.skip (HSub.skip (by simpa using HSub.refl _))) hs) hi hj hij hm hn oq (Yz K) hb) fun v w' h=>⟨h.1,h⟩) (fun w1 v1 w2 _ _ hk2 hR=>?_)
  obtain⟨T1,hk3,bH,hW1,hV1⟩:=hR.of hS0
  refine⟨bf b W T1,hk3,bH,?_⟩
  clear hk2 hR hk3 bH
  repeat' first|apply jS|apply jO|apply jN|refine Q1 ?_|refine Q7 ?_|apply jT
  refine Z2 (A:=[(b7,.cells (wc (-1)) 35),(b6,.cells (wc 1) 35)]) (N:=bf b W T1) (B:=[]) (R:=fun w _ w'=>jf b W m n T1 ((S.rows i j (aT 1)).rows j i (aT (-1))) w w') rfl aA rfl aH rfl (fun w _ hs=>QN (Q9v (K+1) w b W m n T1 (S.rows i j (aT 1)) j i (-1) hW1 (HSub.bU (by exact HSub.skip (HSub.skip (by simpa using HSub.refl _))) hs) hj hi (fun e=>hij e.symm) hm hn oq (by rw[Int.natAbs_neg];exact Yz K) hb1) fun v w' h=>⟨h.1,h⟩) (fun w1 v1 w2 _ _ hk2 hR=>?_)
  obtain⟨T2,hk3,bH,hW2,hV2⟩:=hR.of hV1
  refine⟨bf b W T2,hk3,bH,?_⟩
  clear hk2 hR hk3 bH
  repeat' first|apply jS|apply jO|apply jN|refine Q1 ?_|refine Q7 ?_|apply jT
  refine Z2 (A:=[(b7,.cells (wc (-1)) 35),(b6,.cells (wc 1) 35)]) (N:=bf b W T2) (B:=[]) (R:=fun w _ w'=>jf b W m n T2 (((S.rows i j (aT 1)).rows j i (aT (-1))).rows i j (aT 1)) w w') rfl aA rfl aH rfl (fun w _ hs=>QN (Q9v (K+1) w b W m n T2 ((S.rows i j (aT 1)).rows j i (aT (-1))) i j 1 hW2 (HSub.bU (by exact HSub.skip (HSub.skip (by simpa using HSub.refl _))) hs) hi hj hij hm hn oq (Yz K) hb2) fun v w' h=>⟨h.1,h⟩) (fun w1 v1 w2 _ _ hk2 hR=>?_)
  obtain⟨T3,hk3,bH,hW3,hV3⟩:=hR.of hV2
  refine⟨bf b W T3,hk3,bH,?_⟩
  clear hk2 hR hk3 bH
  repeat' first|apply jO|apply jN|refine Q1 ?_|apply jT
  refine Z2 (A:=[(b7,.cells (wc (-1)) 35),(b6,.cells (wc 1) 35)]) (N:=bf b W T3) (B:=[]) (R:=fun w _ w'=>jf b W m n T3 ((((S.rows i j (aT 1)).rows j i (aT (-1))).rows i j (aT 1)).neg j) w w') rfl aA rfl aH rfl (fun w _ hs=>QN (Qmq (K+1) w b W m n T3 (((S.rows i j (aT 1)).rows j i (aT (-1))).rows i j (aT 1)) j hW3 (HSub.bU (by exact HSub.skip (HSub.skip (by simpa using HSub.refl _))) hs) hj hm hn oq hb3) fun v w' h=>⟨h.1,h⟩) (fun w1 v1 w2 _ _ hk2 hR=>?_)
  obtain⟨T4,hk3,bH,hW4,hV4⟩:=hR.of hV3
  refine⟨bf b W T4,hk3,bH,?_⟩
  clear hk2 hR hk3 bH
  repeat' first|apply jN
  exact Yq (fun a w'' st=>⟨st.kp,T4,WG hW hW4 hV4,fun p hp=>st.hs.blk p (by simpa using Or.inr (Or.inr hp)),hW4,hV4⟩)

theorem Qpn (K:Nat) (w:World) (b:Nat) (W:WV) (m n:Nat) (T:WT) (S S':Sm) (i j:Nat) (hW:dw W m n T S) (hs:aI (bf b W T) w) (hi:i<n) (hj:j<n) (hm:m≤200) (hn:n≤200)
  (hK:K+1≤220000000000) (hb:Ok (K+1) S) (h:swC (K+1) i j S=some S') :
  Calls Tryz.prog 106 #[.pointer (some ⟨b,0,none⟩),nv i,nv j] w (aP fun _ w'=>jf b W m n T S' w w'):=by
 have hM:=Zk hs
 have hS0:=bK.refl T
 refine Q9 [] (keys (bf b W T)) hM (bf b W T) Tryz.func106 rfl mixed (by kernel_rfl) Tryz.ntmps106 Tryz.results106 rfl hs (fun p hp=>List.mem_map.2 ⟨p,hp,rfl⟩) ?_
 simp only[toS,Qd,Qt,Qk,Ql,ay,Qg,QA,aC]
 by_cases hij:i=j
 ·unfold swC at h
  rw[if_pos hij]at h
  obtain rfl:=Option.some.inj h
  subst hij
  repeat' first|apply jS|apply jO|apply jN|apply jT|refine Q1 ?_|(refine Z9 (h1:=?_) (h2:=?_)<;>intro hc<;>try omega)|apply jV|apply jR|refine Q8 rfl ?_
  exact Qdy (fun a w'' st=>⟨st.kp,T,rfl,fun p hp=>st.hs.blk p hp,hW,hS0⟩)
 ·obtain⟨S1,S2,h1,h2,h3⟩:=Qbu hij h
  obtain⟨rfl,hb1⟩:=Q69 h1
  obtain⟨rfl,hb2⟩:=Q69 h2
  obtain⟨rfl,hb3⟩:=Q69 h3
  clear h h1 h2 h3
  repeat' first|apply jS|apply jO|apply jN|apply jT|refine Q1 ?_|(refine Z9 (h1:=?_) (h2:=?_)<;>intro hc<;>try omega)|apply jK|refine Q4 rfl ?_
  refine Q5 aA rfl aH rfl (fun w _ _=>XF w 1 dq dq) fun w v w' _ _ _ hR=>?_
  subst hR
  repeat' first|refine Q2 ?_|refine Qc fun _=>?_|refine Q2 ?_|apply jN
  rename_i b6
  apply QE
  repeat' first|apply jS|apply jO
  refine Q5 aA rfl aH rfl (fun w _ _=>XF w (-1) dq dq) fun w v w' _ _ _ hR=>?_
  subst hR
  repeat' first|refine Q2 ?_|refine Qc fun _=>?_|refine Q2 ?_|apply jN
  rename_i b7
  refine JX.part (F':=[(7,.pointer (some ⟨b7,0,none⟩)),(6,.pointer (some ⟨b6,0,none⟩)),(0,.pointer (some ⟨b,0,none⟩)),(1,nv i),(2,nv j)]) (H':=[(b7,.cells (wc (-1)) 35),(b6,.cells (wc 1) 35)]++(bf b W T++[])) aF (by rw[Vj];exact HSub.refl _) ?_
  apply QE
  repeat' first|apply jS|refine Q1 ?_|refine Q7 ?_|apply jO
  refine Z2 (A:=[(b7,.cells (wc (-1)) 35),(b6,.cells (wc 1) 35)]) (N:=bf b W T) (B:=[]) (R:=fun w _ w'=>jf b W m n T (S.cols i j (aT 1)) w w') rfl aA rfl aH rfl (fun w _ hs=>QN (Qdl (K+1) w b W m n T (S) i j 1 hW (HSub.bU (by exact HSub.skip (HSub.skip (by simpa using HSub.refl _))) hs) hi hj hij hm hn oq (Yz K) hb) fun v w' h=>⟨h.1,h⟩) (fun w1 v1 w2 _ _ hk2 hR=>?_)
  obtain⟨T1,hk3,bH,hW1,hV1⟩:=hR.of hS0
  refine⟨bf b W T1,hk3,bH,?_⟩
  clear hk2 hR hk3 bH
  repeat' first|apply jS|apply jO|apply jN|refine Q1 ?_|refine Q7 ?_|apply jT
  refine Z2 (A:=[(b7,.cells (wc (-1)) 35),(b6,.cells (wc 1) 35)]) (N:=bf b W T1) (B:=[]) (R:=fun w _ w'=>jf b W m n T1 ((S.cols i j (aT 1)).cols j i (aT (-1))) w w') rfl aA rfl aH rfl (fun w _ hs=>QN (Qdl (K+1) w b W m n T1 (S.cols i j (aT 1)) j i (-1) hW1 (HSub.bU (by exact HSub.skip (HSub.skip (by simpa using HSub.refl _))) hs) hj hi (fun e=>hij e.symm) hm hn oq (by rw[Int.natAbs_neg];exact Yz K) hb1) fun v w' h=>⟨h.1,h⟩) (fun w1 v1 w2 _ _ hk2 hR=>?_)
  obtain⟨T2,hk3,bH,hW2,hV2⟩:=hR.of hV1
  refine⟨bf b W T2,hk3,bH,?_⟩
  clear hk2 hR hk3 bH
  repeat' first|apply jO|apply jN|refine Q1 ?_|refine Q7 ?_|apply jT
  refine Z2 (A:=[(b7,.cells (wc (-1)) 35),(b6,.cells (wc 1) 35)]) (N:=bf b W T2) (B:=[]) (R:=fun w _ w'=>jf b W m n T2 (((S.cols i j (aT 1)).cols j i (aT (-1))).cols i j (aT 1)) w w') rfl aA rfl aH rfl (fun w _ hs=>QN (Qdl (K+1) w b W m n T2 ((S.cols i j (aT 1)).cols j i (aT (-1))) i j 1 hW2 (HSub.bU (by exact HSub.skip (HSub.skip (by simpa using HSub.refl _))) hs) hi hj hij hm hn oq (Yz K) hb2) fun v w' h=>⟨h.1,h⟩) (fun w1 v1 w2 _ _ hk2 hR=>?_)
  obtain⟨T3,hk3,bH,hW3,hV3⟩:=hR.of hV2
  refine⟨bf b W T3,hk3,bH,?_⟩
  clear hk2 hR hk3 bH
  repeat' first|apply jN
  exact Yq (fun a w'' st=>⟨st.kp,T3,WG hW hW3 hV3,fun p hp=>st.hs.blk p (by simpa using Or.inr (Or.inr hp)),hW3,hV3⟩)

end Go.Proofs.YtljmapfihjkafaaGreatDoor

