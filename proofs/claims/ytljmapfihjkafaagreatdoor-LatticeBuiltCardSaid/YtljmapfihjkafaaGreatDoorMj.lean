import Derived.Test.YtljmapfihjkafaaGreatDoorMi
import Derived.Test.YtljmapfihjkafaaGreatDoorMd
import Derived.Test.YtljmapfihjkafaaGreatDoorMg
import Derived.Test.YtljmapfihjkafaaGreatDoorMf
import Derived.Test.YtljmapfihjkafaaGreatDoorMh
set_option maxHeartbeats 16000000
namespace Go.Proofs.YtljmapfihjkafaaGreatDoor
open Go Go.RowKit
set_option linter.unusedSimpArgs false
set_option linter.unusedVariables false
set_option linter.unusedSectionVars false

theorem Qqb {c:Cx} {t t' t'':Tmp} {v v' v'':Value} {R:Value→World→Prop} {F:ak} {H:aj} (h:look F t=some v) (h':look F t'=some v') (h'':look F t''=some v'') (hR:∀ a w,St c F H a w→R (.tuple #[v,v',v'']) w):JX c (Yp c.P #[.tmp t,.tmp t',.tmp t''] (aP R)) .ret F H :=
 YI [v,v',v''] ⟨h,h',h'',trivial⟩ hR
theorem Qmp (w:World) (a:Int):Calls Tryz.prog 137 #[Wv a] w (aP fun v w'=>Kp [] w w'∧v=Wv ((a.natAbs:Nat):Int)):=by
 have e:Wv ((a.natAbs:Nat):Int)=.agg #[.bool false,sv (bD a.natAbs)]:=by
  unfold Wv wv
  rw[decide_eq_false oq,Int.natAbs_natCast]
 rw[e]
 unfold Wv wv
 refine Q9 [] [] au [] Tryz.func137 rfl mixed (by kernel_rfl) Tryz.ntmps137 Tryz.results137 rfl ⟨by simp,by simp⟩ au ?_
 simp only[toS,Qd,Qt,Qk,Ql,ay,Qg,QA,aC]
 repeat' first|apply jS|apply jO|apply jN|refine Q3 ?_|refine Qb ?_|refine Qc fun _=>?_|refine QB fun _=>?_|apply jT
 refine ZP (l:=[(1,sv (bD a.natAbs))]) (cs:=#[.bool false,sv (bD a.natAbs)]) rfl rfl rfl rfl ?_
 repeat' first|apply jN|apply jT|refine Q2 ?_|refine Q2 ?_|apply jR
 exact QQ 0 rfl rfl rfl (fun a w' st=>⟨st.kp,rfl⟩)

theorem Qpu (K:Nat) (w:World) (b:Nat) (W:WV) (m n:Nat) (T:WT) (S:Sm) (t:Nat) (hW:dw W m n T S) (hs:aI (bf b W T) w) (gB:t<m) (htn:t<n) (hm:m≤200) (hn:n≤200)
  (hK:K≤220000000000) (hb:Ok K S) :
  Calls Tryz.prog 104 #[.pointer (some ⟨b,0,none⟩),nv t] w (aP fun v w'=>jf b W m n T S w w'∧v=.tuple #[nv (ZL S t m n).1,nv (ZL S t m n).2.1,.bool (ZL S t m n).2.2]):=by
 have hM:=Zk hs
 have hld:=hW.d.len
 have hT:=hW.d.T
 have hVr:∀ a,tv T.d a=tv T.d a:=fun _=>rfl
 have hres:∀ w',Kp (keys (bf b W T)) w w'→(∀ p∈bf b W T,w'.heap[p.1]?=some p.2)→jf b W m n T S w w':=fun w' h1 h2=>⟨h1,T,rfl,h2,hW,bK.refl T⟩
 refine Q9 [⟨10,0,[0,1,2,3,4,5,6,7,8,9,10,11,12,13,14,15,16,17,18,19,20,21,22,23,24,25,27,28,29,30,31,32,33,34,35,36,26,37,38,39,40,41],[]⟩] (keys (bf b W T)) hM (bf b W T) Tryz.func104 rfl mixed (by kernel_rfl) Tryz.ntmps104 Tryz.results104 rfl hs (fun p hp=>List.mem_map.2 ⟨p,hp,rfl⟩) ?_
 simp only[toS,Qd,Qt,Qk,Ql,ay,Qg,QA,aC]
 repeat' first|apply jS|apply jO|apply jN|apply jT|refine Q1 ?_|refine Q0 ?_|apply jB
 refine Qp (ι:=Nat × Nat × Nat × Bool) ⟨fun z=>[(10,nv z.1),(7,nv z.2.1),(8,nv z.2.2.1),(9,.bool z.2.2.2),(0,.pointer (some ⟨b,0,none⟩)),(1,nv t)],fun _=>bf b W T,
  fun z=>t≤z.1∧z.1≤m∧(z.2.2.2=true→z.2.1<m∧z.2.2.1<n)∧ZL S t m n=(List.range' z.1 (m-z.1)).foldl (Qeg S t n) z.2,fun z=>m-z.1⟩ (t,0,0,false) ⟨V8 _,by dsimp only;omega,fun h=>(by cases h),rfl⟩ aF (HSub.refl _) (fun z hz=>?_)
 obtain⟨i,x,y,fl⟩:=z
 obtain⟨hti,him,hin,hls⟩:=hz
 dsimp only at hti him hin hls ⊢
 unfold bf
 by_cases hlt:i<m
 ·rw[Yu hlt,List.foldl_cons]at hls
  repeat' first|apply jS|apply jO|apply jN|apply jT|refine Q1 ?_|refine Q3 ?_|refine Q0 ?_|refine Qb ?_|refine Q1c (h:=?_)|refine Qz (h:=?_)|(refine Qs (h1:=?_) (h2:=?_)<;>intro hc<;>try omega)|apply jK|refine Q8 rfl ?_|apply jB
  refine Qp (ι:=Nat × Nat × Nat × Bool) ⟨fun z=>[(11,nv z.1),(10,nv i),(7,nv z.2.1),(8,nv z.2.2.1),(9,.bool z.2.2.2),(0,.pointer (some ⟨b,0,none⟩)),(1,nv t)],fun _=>bf b W T,
   fun z=>t≤z.1∧z.1≤n∧(z.2.2.2=true→z.2.1<m∧z.2.2.1<n)∧ZL S t m n=(List.range' (i+1) (m-(i+1))).foldl (Qeg S t n) ((List.range' z.1 (n-z.1)).foldl (gV S i) z.2),fun z=>n-z.1⟩ (t,x,y,fl) ⟨V8 _,by dsimp only;omega,hin,hls⟩ aF (HSub.refl _) (fun z hz=>?_)
  clear hls hin
  obtain⟨j,x,y,fl⟩:=z
  obtain⟨htj,hjn,hin,hls⟩:=hz
  dsimp only at htj hjn hin hls ⊢
  unfold bf
  by_cases hjt:j<n
  ·rw[Yu hjt,List.foldl_cons]at hls
   have hx:(tM T.d i j).natAbs<256 ^ K:=by rw[hW.d.at];exact Zp hb.d _ _
   repeat' first|apply jS|apply jO|apply jD|apply jN|apply jT|refine Q1 ?_|refine Q3 ?_|refine Qb ?_|refine Ym (h:=?_)|refine QW (h:=?_)|refine Zo (h:=?_)|refine Y2 (h:=?_)|refine Yc (h:=?_)|refine Qz (h:=?_)|(refine Qs (h1:=?_) (h2:=?_)<;>intro hc<;>try omega)|apply jK|refine Q8 rfl ?_|apply jB
   refine Q5 aA rfl aH rfl (fun w _ _=>Y5 w _ (tM T.d i j) K (Qi hx) oq) fun w v w' _ _ _ hR=>?_
   subst hR
   by_cases hz:tM T.d i j=0
   ·have h1:gV S i (x,y,fl) j=(x,y,fl):=by unfold gV;rw[if_neg (fun h=>h.1 (by rw[← hW.d.at];exact hz))]
    rw[h1]at hls
    rw[show (tM T.d i j).sign=0 by rw[hz];rfl]
    repeat' first|apply jO|apply jN|apply jT|refine Q1 ?_|refine Q0 ?_|refine Qj ?_|refine QC (h:=?_)|(refine Ze (h1:=?_) (h2:=?_)<;>intro hc<;>try omega)|apply jK|refine Q4 rfl ?_|refine QU (h:=?_)|apply jW
    exact Qa (j+1,x,y,fl) ⟨by dsimp only;omega,by dsimp only;omega,hin,hls⟩ aY aF (HSub.refl _)
   ·have hsz:¬(tM T.d i j).sign=0:=fun h=>hz (Int.sign_eq_zero_iff_zero.1 h)
    have hz':gE S.d i j≠0:=by rw[← hW.d.at];exact hz
    cases fl with
    | false =>
     have h1:gV S i (x,y,false) j=(i,j,true):=by unfold gV;rw[if_pos ⟨hz',.inl rfl⟩]
     rw[h1]at hls
     repeat' first|apply jS|apply jO|apply jN|apply jT|refine Q1 ?_|refine Q0 ?_|refine Qj ?_|refine QD (h:=?_)|refine QV (h:=?_)|(refine Ze (h1:=?_) (h2:=?_)<;>intro hc<;>try omega)|refine Q8 rfl ?_|refine QU (h:=?_)|apply jW
     exact Qa (j+1,i,j,true) ⟨by dsimp only;omega,by dsimp only;omega,fun _=>⟨hlt,hjt⟩,hls⟩ aY aF (HSub.refl _)
    | true =>
     obtain⟨hxm,hyn⟩:=hin rfl
     have hy:(tM T.d x y).natAbs<256 ^ K:=by rw[hW.d.at];exact Zp hb.d _ _
     repeat' first|refine Q1 ?_|refine Q3 ?_|refine Qb ?_|refine QW (h:=?_)|refine Zo (h:=?_)|refine Y2 (h:=?_)|refine Yc (h:=?_)|refine QV (h:=?_)|refine Qz (h:=?_)|(refine Ze (h1:=?_) (h2:=?_)<;>intro hc<;>try omega)|fail
     refine Q5 aA rfl aH rfl (fun w _ _=>Qmp w (tM T.d i j)) fun w v w' _ _ _ hR=>?_
     subst hR
     skip
     refine Q5 aA rfl aH rfl (fun w _ _=>Qmp w (tM T.d x y)) fun w v w' _ _ _ hR=>?_
     subst hR
     skip
     refine Q5 aA rfl aH rfl (fun w _ _=>Qj2 w _ _ ((tM T.d i j).natAbs:Int) ((tM T.d x y).natAbs:Int) K (Qi (by rw[Int.natAbs_natCast];exact hx)) (Qi (by rw[Int.natAbs_natCast];exact hy)) oq) fun w v w' _ _ _ hR=>?_
     subst hR
     by_cases hq:(tM T.d i j).natAbs<(tM T.d x y).natAbs
     ·have h1:gV S i (x,y,true) j=(i,j,true):=by unfold gV;rw[if_pos ⟨hz',.inr (by rw[← hW.d.at, ← hW.d.at];exact hq)⟩]
      rw[h1]at hls
      rw[show (((tM T.d i j).natAbs:Int)-((tM T.d x y).natAbs:Int)).sign = -1 from Int.sign_eq_neg_one_of_neg oq]
      repeat' first|apply jS|apply jO|apply jN|apply jT|refine Q1 ?_|refine Q0 ?_|refine Qj ?_|refine QD (h:=?_)|refine QC (h:=?_)|(refine Qs (h1:=?_) (h2:=?_)<;>intro hc<;>try omega)|refine Q8 rfl ?_|apply jW
      exact Qa (j+1,i,j,true) ⟨by dsimp only;omega,by dsimp only;omega,fun _=>⟨hlt,hjt⟩,hls⟩ aY aF (HSub.refl _)
     ·have h1:gV S i (x,y,true) j=(x,y,true):=by
       unfold gV
       rw[if_neg]
       rintro⟨_,h|h⟩
       ·cases h
       ·rw[← hW.d.at, ← hW.d.at]at h;exact hq h
      rw[h1]at hls
      have hsn:¬(((tM T.d i j).natAbs:Int)-((tM T.d x y).natAbs:Int)).sign<0:=fun h=>by have:=Int.sign_neg_iff.1 h;omega
      repeat' first|apply jO|apply jN|apply jT|refine Q1 ?_|refine Q0 ?_|refine Qj ?_|refine QD (h:=?_)|refine QC (h:=?_)|(refine Qs (h1:=?_) (h2:=?_)<;>intro hc<;>try omega)|apply jK|refine Q4 rfl ?_|apply jW
      exact Qa (j+1,x,y,true) ⟨by dsimp only;omega,by dsimp only;omega,hin,hls⟩ aY aF (HSub.refl _)
  ·rw[show n-j=0 by omega]at hls
   repeat' first|apply jS|apply jO|apply jN|apply jT|refine Q1 ?_|refine Q3 ?_|refine Q0 ?_|refine Qb ?_|refine Ym (h:=?_)|refine Zo (h:=?_)|refine Yc (h:=?_)|refine Qj ?_|refine Qz (h:=?_)|(refine Qs (h1:=?_) (h2:=?_)<;>intro hc<;>try omega)|apply jU|apply jE|refine Q4 rfl ?_|apply jW|apply Qe
   exact Qa (i+1,x,y,fl) ⟨by dsimp only;omega,by dsimp only;omega,hin,hls⟩ aY aF (HSub.refl _)
 ·rw[show m-i=0 by omega]at hls
  have hls:ZL S t m n=(x,y,fl):=hls
  rw[hls]
  repeat' first|apply jS|apply jO|apply jN|apply jT|refine Q1 ?_|refine Q3 ?_|refine Q0 ?_|refine Qb ?_|refine Q1c (h:=?_)|refine Qz (h:=?_)|(refine Qs (h1:=?_) (h2:=?_)<;>intro hc<;>try omega)|apply jU|apply jE|apply jR|refine Q4 rfl ?_|apply Qe
  exact Qqb rfl rfl rfl (fun a w' st=>⟨hres w' st.kp (fun p hp=>st.hs.blk p hp),rfl⟩)

theorem Qld (K:Nat) (w:World) (b:Nat) (W:WV) (m n:Nat) (T:WT) (S:Sm) (t:Nat) (hW:dw W m n T S) (hs:aI (bf b W T) w) (gB:t<m) (htn:t<n) (hm:m≤200) (hn:n≤200)
  (hK:K≤220000000000) (hb:Ok K S) :
  Calls Tryz.prog 108 #[.pointer (some ⟨b,0,none⟩),nv t] w (aP fun v w'=>jf b W m n T S w w'∧v=spV (Z0 S t m n)):=by
 have hM:=Zk hs
 have hld:=hW.d.len
 have hT:=hW.d.T
 have hVr:∀ a,tv T.d a=tv T.d a:=fun _=>rfl
 have hres:∀ w',Kp (keys (bf b W T)) w w'→(∀ p∈bf b W T,w'.heap[p.1]?=some p.2)→jf b W m n T S w w':=fun w' h1 h2=>⟨h1,T,rfl,h2,hW,bK.refl T⟩
 refine Q9 [⟨7,3,[],[]⟩] (keys (bf b W T)) hM (bf b W T) Tryz.func108 rfl mixed (by kernel_rfl) Tryz.ntmps108 Tryz.results108 rfl hs (fun p hp=>List.mem_map.2 ⟨p,hp,rfl⟩) ?_
 simp only[toS,Qd,Qt,Qk,Ql,ay,Qg,QA,aC]
 repeat' first|apply jS|apply jO|apply jN|apply jT|refine Q1 ?_|refine Q0 ?_|refine Qj ?_|apply jB
 refine Qp (ι:=Nat) ⟨fun z=>[(6,nv z),(4,iv 0),(5,.bool false),(0,.pointer (some ⟨b,0,none⟩)),(1,nv t)],fun _=>bf b W T,
  fun z=>t+1≤z∧z≤m∧Z0 S t m n=(List.range' z (m-z)).find? (X3 S t n),fun z=>m-z⟩ (t+1) ⟨by omega,by omega,rfl⟩ aF (HSub.refl _) (fun i hi=>?_)
 obtain⟨hti,him,hsp⟩:=hi
 dsimp only at hti him hsp ⊢
 unfold bf
 by_cases hlt:i<m
 ·rw[Yu hlt,List.find?_cons]at hsp
  repeat' first|apply jS|apply jO|apply jN|apply jT|refine Q1 ?_|refine Q3 ?_|refine Q0 ?_|refine Qb ?_|refine Q1c (h:=?_)|refine Qj ?_|refine Qz (h:=?_)|(refine Qs (h1:=?_) (h2:=?_)<;>intro hc<;>try omega)|apply jK|refine Q8 rfl ?_|apply jB
  refine Qp (ι:=Nat) ⟨fun z=>[(7,nv z),(6,nv i),(4,iv 0),(5,.bool false),(0,.pointer (some ⟨b,0,none⟩)),(1,nv t)],fun _=>bf b W T,
   fun z=>t+1≤z∧z≤n∧X3 S t n i=(List.range' z (n-z)).any (Qeo S t i),fun z=>n-z⟩ (t+1) ⟨by omega,by omega,rfl⟩ aF (HSub.refl _) (fun j hj=>?_)
  obtain⟨htj,hjn,hbr⟩:=hj
  dsimp only at htj hjn hbr ⊢
  unfold bf
  by_cases hjt:j<n
  ·rw[Yu hjt,List.any_cons]at hbr
   have hx:(tM T.d i j).natAbs<256 ^ K:=by rw[hW.d.at];exact Zp hb.d _ _
   have hy:(tM T.d t t).natAbs<256 ^ K:=by rw[hW.d.at];exact Zp hb.d _ _
   repeat' first|apply jS|apply jO|apply jD|apply jN|apply jT|refine Q1 ?_|refine Q3 ?_|refine Qb ?_|refine Ym (h:=?_)|refine QW (h:=?_)|refine Zo (h:=?_)|refine Y2 (h:=?_)|refine Yc (h:=?_)|refine Qz (h:=?_)|(refine Qs (h1:=?_) (h2:=?_)<;>intro hc<;>try omega)|apply jK|refine Q8 rfl ?_|apply jB
   refine Q5 aA rfl aH rfl (fun w _ _=>Qdp w _ _ (tM T.d i j) (tM T.d t t) K (Qi hx) (Qi hy) oq) fun w v w' _ _ _ hR=>?_
   have hQ:∃ q r z,v=.tuple #[Wv q,Wv r,.bool z]∧r=iJ (gE S.d i j) (gE S.d t t)∧r.natAbs<256 ^ K:=by
    rw[← hW.d.at, ← hW.d.at]
    unfold iJ
    by_cases h0:tM T.d t t=0
    ·rw[if_pos h0]at hR;exact⟨0,0,false,hR,by rw[if_pos h0],bG K⟩
    ·rw[if_neg h0]at hR;exact⟨_,_,true,hR,by rw[if_neg h0],by have:=Int.emod_lt (tM T.d i j) h0;have:=Int.emod_nonneg (tM T.d i j) h0;omega⟩
   clear hR
   obtain⟨q,r,z,rfl,hr,hrb⟩:=hQ
   repeat' first|apply jS|apply jO|apply jN|refine Q1 ?_|refine Q0 ?_|refine Q7 ?_|refine Qv (h:=?_)|refine Q2 ?_|refine Qc fun _=>?_|refine Q2 ?_|apply jT
   refine Q5 aA rfl aH rfl (fun w _ _=>Y5 w _ r K (Qi hrb) oq) fun w v w' _ _ _ hR=>?_
   subst hR
   repeat' first|apply jS|apply jO|apply jN|apply jT|refine Q1 ?_|refine Q0 ?_|refine Qj ?_|(refine Ze (h1:=?_) (h2:=?_)<;>intro hc<;>try omega)|apply jV|apply jK|apply jR|refine Q8 rfl ?_|refine Q4 rfl ?_|apply jW|apply QT
   ·have h1:Qeo S t i j=true:=decide_eq_true (by rw[← hr];exact fun h=>hc (by rw[h];rfl))
    rw[h1]at hbr
    have hbr:X3 S t n i=true:=hbr
    rw[hbr]at hsp
    have hsp:Z0 S t m n=some i:=hsp
    exact YH rfl rfl (fun a w' st=>⟨hres w' st.kp (fun p hp=>st.hs.blk p (by exact Ve _ (Ve _ hp))),by rw[hsp];rfl⟩)
   ·have h1:Qeo S t i j=false:=decide_eq_false (by rw[← hr,Int.sign_eq_zero_iff_zero.1 hc];simp)
    rw[h1,Bool.false_or]at hbr
    exact Qa (j+1) ⟨by first|omega|(dsimp only;omega),by first|omega|(dsimp only;omega),hbr⟩ dgp aF (by exact HSub.skip (HSub.skip (HSub.refl _)))
  ·rw[show n-j=0 by omega]at hbr
   have hbr:X3 S t n i=false:=hbr
   rw[hbr]at hsp
   repeat' first|apply jS|apply jO|apply jN|apply jT|refine Q1 ?_|refine Q3 ?_|refine Q0 ?_|refine Qb ?_|refine Ym (h:=?_)|refine Zo (h:=?_)|refine Yc (h:=?_)|refine Qj ?_|refine Qz (h:=?_)|(refine Qs (h1:=?_) (h2:=?_)<;>intro hc<;>try omega)|apply jU|apply jE|refine Q4 rfl ?_|apply jW|apply Qe
   exact Qa (i+1) ⟨by first|omega|(dsimp only;omega),by first|omega|(dsimp only;omega),hsp⟩ dgp aF (HSub.refl _)
 ·rw[show m-i=0 by omega]at hsp
  have hsp:Z0 S t m n=none:=hsp
  repeat' first|apply jS|apply jO|apply jN|apply jT|refine Q1 ?_|refine Q3 ?_|refine Q0 ?_|refine Qb ?_|refine Q1c (h:=?_)|refine Qz (h:=?_)|(refine Qs (h1:=?_) (h2:=?_)<;>intro hc<;>try omega)|apply jU|apply jE|apply jR|refine Q4 rfl ?_|apply Qe
  exact YH rfl rfl (fun a w' st=>⟨hres w' st.kp st.hs.blk,by rw[hsp];rfl⟩)


theorem ZV {p q:Nat × Obj} {H:aj}:HSub H ([p,q]++(H++[])):=by
 rw[Vj];exact HSub.skip (HSub.skip (HSub.refl _))
theorem Qgv {K:Nat} {a b:Int} {v:Value} (ha:a.natAbs<256 ^ K) (hb:b.natAbs<256 ^ K) (h:v=if b=0 then .tuple #[Wv 0,Wv 0,.bool false] else .tuple #[Wv (a / b),Wv (a % b),.bool true]):∃ q r z,v=.tuple #[Wv q,Wv r,.bool z]∧q=iw a b∧r=iJ a b∧q.natAbs<256 ^ K∧r.natAbs<256 ^ K:=by
 unfold iw iJ
 by_cases h0:b=0
 ·rw[if_pos h0]at h
  exact⟨0,0,false,h,by rw[if_pos h0],by rw[if_pos h0],bG K,bG K⟩
 ·rw[if_neg h0]at h
  refine⟨_,_,true,h,by rw[if_neg h0],by rw[if_neg h0],?_,?_⟩
  ·have:=ZR a b;omega
  ·have:=Int.emod_lt a h0;have:=Int.emod_nonneg a h0;omega

theorem Qlg (K:Nat) (w:World) (b:Nat) (W:WV) (m n:Nat) (T:WT) (S:Sm) (q:Sm × Bool) (t:Nat) (hW:dw W m n T S) (hs:aI (bf b W T) w) (gB:t<m) (htn:t<n) (hm:m≤200) (hn:n≤200)
  (hK:K≤220000000000) (hb:Ok K S) (h:Q0u K t m n S=some q) :
  Calls Tryz.prog 107 #[.pointer (some ⟨b,0,none⟩),nv t] w (aP fun v w'=>jf b W m n T q.1 w w'∧v=.bool q.2):=by
 have hM:=Zk hs
 have hS0:=bK.refl T
 obtain⟨⟨Sr,dr⟩,hr,hcol⟩:=Q32 h
 obtain⟨Sc,dc⟩:=q
 dsimp only at hcol ⊢
 refine Q9 [⟨5,3,[],[]⟩,⟨12,3,[],[]⟩] (keys (bf b W T)) hM (bf b W T) Tryz.func107 rfl mixed (by kernel_rfl) Tryz.ntmps107 Tryz.results107 rfl hs (fun p hp=>List.mem_map.2 ⟨p,hp,rfl⟩) ?_
 simp only[toS,Qd,Qt,Qk,Ql,ay,Qg,QA,aC]
 repeat' first|apply jS|apply jO|apply jN|apply jT|refine Q1 ?_|refine Q0 ?_|refine Qj ?_|apply jB
 refine Qp (ι:=Nat × Bool × Sm × WT) ⟨fun z=>[(6,nv z.1),(5,.bool z.2.1),(0,.pointer (some ⟨b,0,none⟩)),(1,nv t)],fun z=>bf b W z.2.2.2,
  fun z=>t+1≤z.1∧z.1≤m∧dw W m n z.2.2.2 z.2.2.1∧bK T z.2.2.2∧Ok K z.2.2.1∧jM K t (m-z.1) z.1 z.2.1 z.2.2.1=some (Sr,dr),fun z=>m-z.1⟩ (t+1,true,S,T)
  ⟨by dsimp only;omega,by dsimp only;omega,hW,hS0,hb,hr⟩ aF (HSub.refl _) (fun z hz=>?_)
 clear hr
 obtain⟨i,dn,S1,T1⟩:=z
 obtain⟨hti,him,hW1,hV1,hb1,hr⟩:=hz
 dsimp only at hti him hW1 hV1 hb1 hr ⊢
 have hld:=hW1.d.len
 have hT1:=hW1.d.T
 have hVr:∀ a,tv T1.d a=tv T1.d a:=fun _=>rfl
 unfold bf
 by_cases hlt:i<m
 ·obtain⟨⟨S2,r2⟩,hr1,hr2⟩:=Q9r (show jM K t (m-(i+1)+1) i dn S1=some (Sr,dr) by rw[show m-(i+1)+1=m-i by omega];exact hr)
  obtain⟨hrd,hst⟩:=Q9t hr1
  have hok2:=Qid hr1 hb1
  dsimp only at hrd hst hok2 hr2
  have hx:(tM T1.d i t).natAbs<256 ^ K:=by rw[hW1.d.at];exact Zp hb1.d _ _
  have hy:(tM T1.d t t).natAbs<256 ^ K:=by rw[hW1.d.at];exact Zp hb1.d _ _
  repeat' first|apply jS|apply jO|apply jD|apply jN|apply jT|refine Q1 ?_|refine Q3 ?_|refine Qb ?_|refine Q1c (h:=?_)|refine QW (h:=?_)|refine Zo (h:=?_)|refine Y2 (h:=?_)|refine Yc (h:=?_)|refine Qz (h:=?_)|(refine Qs (h1:=?_) (h2:=?_)<;>intro hc<;>try omega)|apply jK|refine Q8 rfl ?_|apply jB
  refine Q5 aA rfl aH rfl (fun w _ _=>Qdp w _ _ (tM T1.d i t) (tM T1.d t t) K (Qi hx) (Qi hy) oq) fun w v w' _ _ _ hR=>?_
  obtain⟨q,r,z,rfl,hq,hrr,hqb,hrb⟩:=Qgv hx hy hR
  rw[hW1.d.at,hW1.d.at]at hq hrr
  rw[← hq]at hst
  rw[← hrr]at hrd
  repeat' first|refine Q1 ?_|refine Q0 ?_|refine Qv (h:=?_)|refine Q2 ?_|refine Qc fun _=>?_|refine Q2 ?_|apply jN
  rename_i b7 b8
  refine JX.part (F':=[(8,.pointer (some ⟨b8,0,none⟩)),(7,.pointer (some ⟨b7,0,none⟩)),(6,nv i),(5,.bool dn),(0,.pointer (some ⟨b,0,none⟩)),(1,nv t)]) (H':=[(b8,.cells (wc r) 35),(b7,.cells (wc q) 35)]++(bf b W T1++[])) aF (by rw[Vj];exact HSub.refl _) ?_
  apply QE
  repeat' first|apply jS|refine Q7 ?_|apply jO
  refine Q5 aA rfl aH rfl (fun w _ _=>Y5 w _ q K (Qi hqb) oq) fun w v w' _ _ _ hR=>?_
  subst hR
  rcases hst with ⟨h0,rfl⟩|⟨h0,hop⟩
  ·rw[show q.sign=0 by rw[h0];rfl]
   repeat' first|(refine Ze (h1:=?_) (h2:=?_)<;>intro hc<;>try omega)|apply jN
   apply QE
   cases dn with
   | false =>
    rw[Bool.false_and]at hr2
    repeat' first|apply jO|apply jN|apply jT|refine Q1 ?_|refine Q0 ?_|refine Qj ?_|refine QC (h:=?_)|apply jK|refine Q4 rfl ?_|refine QU (h:=?_)|apply jW
    exact Qa (i+1,false,S2,T1) ⟨by dsimp only;omega,by dsimp only;omega,hW1,hV1,hok2,hr2⟩ aY aF ZV
   | true =>
    rw[Bool.true_and,hrd]at hr2
    repeat' first|apply jO|apply jT|refine Q1 ?_|refine Q7 ?_|apply jK|refine Q4 rfl ?_
    refine Q5 aA rfl aH rfl (fun w _ _=>Y5 w _ r K (Qi hrb) oq) fun w v w' _ _ _ hR=>?_
    subst hR
    by_cases hr0:r=0
    ·rw[decide_eq_true hr0]at hr2
     rw[show r.sign=0 by rw[hr0];rfl]
     repeat' first|apply jO|apply jN|apply jT|refine Q1 ?_|refine Q0 ?_|refine Qj ?_|refine QD (h:=?_)|(refine Z9 (h1:=?_) (h2:=?_)<;>intro hc<;>try omega)|apply jW
     exact Qa (i+1,true,S2,T1) ⟨by dsimp only;omega,by dsimp only;omega,hW1,hV1,hok2,hr2⟩ aY aF ZV
    ·rw[decide_eq_false hr0]at hr2
     have hrs:¬r.sign=0:=fun h=>hr0 (Int.sign_eq_zero_iff_zero.1 h)
     repeat' first|apply jO|apply jN|apply jT|refine Q1 ?_|refine Q0 ?_|refine Qj ?_|refine QD (h:=?_)|(refine Z9 (h1:=?_) (h2:=?_)<;>intro hc<;>try omega)|apply jW
     exact Qa (i+1,false,S2,T1) ⟨by dsimp only;omega,by dsimp only;omega,hW1,hV1,hok2,hr2⟩ aY aF ZV
  ·obtain⟨rfl,_⟩:=Q2w hop
   have hqs:¬q.sign=0:=fun h=>h0 (Int.sign_eq_zero_iff_zero.1 h)
   repeat' first|apply jO|apply jN|apply jT|refine Q1 ?_|refine Q7 ?_|(refine Ze (h1:=?_) (h2:=?_)<;>intro hc<;>try omega)|refine Q8 rfl ?_
   refine Q5 aA rfl aH rfl (fun w _ _=>Q33 w _ q K (Qi hqb) oq) fun w v w' _ _ _ hR=>?_
   subst hR
   skip
   refine Z2 (A:=[(b8,.cells (wc r) 35),(b7,.cells (wc q) 35)]) (N:=bf b W T1) (B:=[]) (R:=fun w _ w'=>jf b W m n T1 (S1.rows i t (aT (-q))) w w') rfl aA rfl aH rfl (fun w _ hs=>QN (Q9v K w b W m n T1 S1 i t (-q) hW1 (HSub.bU (by exact HSub.skip (HSub.skip (by simpa using HSub.refl _))) hs) hlt oq oq hm hn oq (by rw[Int.natAbs_neg];exact hqb) hb1) fun v w' h=>⟨h.1,h⟩) (fun w1 v1 w2 _ _ hk2 hR=>?_)
   obtain⟨T2,hk3,bH,hW2,hV2⟩:=hR.of hV1
   refine⟨bf b W T2,hk3,bH,?_⟩
   clear hk2 hR hk3 bH
   generalize S1.rows i t (aT (-q))=S2 at *
   repeat' first|apply jN
   refine JX.part (F':=[(8,.pointer (some ⟨b8,0,none⟩)),(6,nv i),(5,.bool dn),(0,.pointer (some ⟨b,0,none⟩)),(1,nv t)]) (H':=[(b8,.cells (wc r) 35),(b7,.cells (wc q) 35)]++(bf b W T2++[])) aF (HSub.refl _) ?_
   apply QE
   cases dn with
   | false =>
    rw[Bool.false_and]at hr2
    repeat' first|apply jO|apply jN|apply jT|refine Q1 ?_|refine Q0 ?_|refine Qj ?_|refine QC (h:=?_)|refine QU (h:=?_)|apply jW
    exact Qa (i+1,false,S2,T2) ⟨by dsimp only;omega,by dsimp only;omega,hW2,hV2,hok2,hr2⟩ aY aF ZV
   | true =>
    rw[Bool.true_and,hrd]at hr2
    repeat' first|refine Q1 ?_|refine Q7 ?_|apply jO
    refine Q5 aA rfl aH rfl (fun w _ _=>Y5 w _ r K (Qi hrb) oq) fun w v w' _ _ _ hR=>?_
    subst hR
    by_cases hr0:r=0
    ·rw[decide_eq_true hr0]at hr2
     rw[show r.sign=0 by rw[hr0];rfl]
     repeat' first|apply jO|apply jN|apply jT|refine Q1 ?_|refine Q0 ?_|refine Qj ?_|refine QD (h:=?_)|(refine Z9 (h1:=?_) (h2:=?_)<;>intro hc<;>try omega)|apply jW
     exact Qa (i+1,true,S2,T2) ⟨by dsimp only;omega,by dsimp only;omega,hW2,hV2,hok2,hr2⟩ aY aF ZV
    ·rw[decide_eq_false hr0]at hr2
     have hrs:¬r.sign=0:=fun h=>hr0 (Int.sign_eq_zero_iff_zero.1 h)
     repeat' first|apply jO|apply jN|apply jT|refine Q1 ?_|refine Q0 ?_|refine Qj ?_|refine QD (h:=?_)|(refine Z9 (h1:=?_) (h2:=?_)<;>intro hc<;>try omega)|apply jW
     exact Qa (i+1,false,S2,T2) ⟨by dsimp only;omega,by dsimp only;omega,hW2,hV2,hok2,hr2⟩ aY aF ZV
 ·obtain rfl:i=m:=by omega
  rw[Nat.sub_self,jM]at hr
  obtain⟨rfl,rfl⟩:=Prod.mk.inj (Option.some.inj hr)
  clear hr
  repeat' first|apply jS|apply jO|apply jN|apply jT|refine Q1 ?_|refine Q3 ?_|refine Q0 ?_|refine Qb ?_|refine Q1c (h:=?_)|refine Qj ?_|refine Qz (h:=?_)|(refine Qs (h1:=?_) (h2:=?_)<;>intro hc<;>try omega)|apply jU|apply jE|refine Q4 rfl ?_|apply jB|apply Qe
  refine Qp (ι:=Nat × Bool × Sm × WT) ⟨fun z=>[(10,nv z.1),(5,.bool z.2.1),(0,.pointer (some ⟨b,0,none⟩)),(1,nv t)],fun z=>bf b W z.2.2.2,
   fun z=>t+1≤z.1∧z.1≤n∧dw W i n z.2.2.2 z.2.2.1∧bK T z.2.2.2∧Ok K z.2.2.1∧clPC K t (n-z.1) z.1 z.2.1 z.2.2.1=some (Sc,dc),fun z=>n-z.1⟩ (t+1,dn,S1,T1)
   ⟨by dsimp only;omega,by dsimp only;omega,hW1,hV1,hb1,hcol⟩ aF (HSub.refl _) (fun z hz=>?_)
  clear hcol hW1 hV1 hb1 hT1 hVr hld
  obtain⟨j,dn,S1,T1⟩:=z
  obtain⟨htj,hjn,hW1,hV1,hb1,hr⟩:=hz
  dsimp only at htj hjn hW1 hV1 hb1 hr ⊢
  have hld:=hW1.d.len
  have hT1:=hW1.d.T
  have hVr:∀ a,tv T1.d a=tv T1.d a:=fun _=>rfl
  unfold bf
  by_cases hlt:j<n
  ·obtain⟨⟨S2,r2⟩,hr1,hr2⟩:=Q9s (show clPC K t (n-(j+1)+1) j dn S1=some (Sc,dc) by rw[show n-(j+1)+1=n-j by omega];exact hr)
   obtain⟨hrd,hst⟩:=Q9u hr1
   have hok2:=Qie hr1 hb1
   dsimp only at hrd hst hok2 hr2
   have hx:(tM T1.d t j).natAbs<256 ^ K:=by rw[hW1.d.at];exact Zp hb1.d _ _
   have hy:(tM T1.d t t).natAbs<256 ^ K:=by rw[hW1.d.at];exact Zp hb1.d _ _
   repeat' first|apply jS|apply jO|apply jD|apply jN|apply jT|refine Q1 ?_|refine Q3 ?_|refine Qb ?_|refine Ym (h:=?_)|refine QW (h:=?_)|refine Zo (h:=?_)|refine Y2 (h:=?_)|refine Yc (h:=?_)|refine Qz (h:=?_)|(refine Qs (h1:=?_) (h2:=?_)<;>intro hc<;>try omega)|apply jK|refine Q8 rfl ?_|apply jB
   refine Q5 aA rfl aH rfl (fun w _ _=>Qdp w _ _ (tM T1.d t j) (tM T1.d t t) K (Qi hx) (Qi hy) oq) fun w v w' _ _ _ hR=>?_
   obtain⟨q,r,z,rfl,hq,hrr,hqb,hrb⟩:=Qgv hx hy hR
   rw[hW1.d.at,hW1.d.at]at hq hrr
   rw[← hq]at hst
   rw[← hrr]at hrd
   repeat' first|refine Q1 ?_|refine Q0 ?_|refine Qv (h:=?_)|refine Q2 ?_|refine Qc fun _=>?_|refine Q2 ?_|apply jN
   rename_i b11 b12
   refine JX.part (F':=[(12,.pointer (some ⟨b12,0,none⟩)),(11,.pointer (some ⟨b11,0,none⟩)),(10,nv j),(5,.bool dn),(0,.pointer (some ⟨b,0,none⟩)),(1,nv t)]) (H':=[(b12,.cells (wc r) 35),(b11,.cells (wc q) 35)]++(bf b W T1++[])) aF (by rw[Vj];exact HSub.refl _) ?_
   apply QE
   repeat' first|apply jS|refine Q7 ?_|apply jO
   refine Q5 aA rfl aH rfl (fun w _ _=>Y5 w _ q K (Qi hqb) oq) fun w v w' _ _ _ hR=>?_
   subst hR
   rcases hst with ⟨h0,rfl⟩|⟨h0,hop⟩
   ·rw[show q.sign=0 by rw[h0];rfl]
    repeat' first|(refine Ze (h1:=?_) (h2:=?_)<;>intro hc<;>try omega)|apply jN
    apply QE
    cases dn with
    | false =>
     rw[Bool.false_and]at hr2
     repeat' first|apply jO|apply jN|apply jT|refine Q1 ?_|refine Q0 ?_|refine Qj ?_|refine QC (h:=?_)|apply jK|refine Q4 rfl ?_|refine QU (h:=?_)|apply jW
     exact Qa (j+1,false,S2,T1) ⟨by dsimp only;omega,by dsimp only;omega,hW1,hV1,hok2,hr2⟩ aY aF ZV
    | true =>
     rw[Bool.true_and,hrd]at hr2
     repeat' first|apply jO|apply jT|refine Q1 ?_|refine Q7 ?_|apply jK|refine Q4 rfl ?_
     refine Q5 aA rfl aH rfl (fun w _ _=>Y5 w _ r K (Qi hrb) oq) fun w v w' _ _ _ hR=>?_
     subst hR
     by_cases hr0:r=0
     ·rw[decide_eq_true hr0]at hr2
      rw[show r.sign=0 by rw[hr0];rfl]
      repeat' first|apply jO|apply jN|apply jT|refine Q1 ?_|refine Q0 ?_|refine Qj ?_|refine QD (h:=?_)|(refine Z9 (h1:=?_) (h2:=?_)<;>intro hc<;>try omega)|apply jW
      exact Qa (j+1,true,S2,T1) ⟨by dsimp only;omega,by dsimp only;omega,hW1,hV1,hok2,hr2⟩ aY aF ZV
     ·rw[decide_eq_false hr0]at hr2
      have hrs:¬r.sign=0:=fun h=>hr0 (Int.sign_eq_zero_iff_zero.1 h)
      repeat' first|apply jO|apply jN|apply jT|refine Q1 ?_|refine Q0 ?_|refine Qj ?_|refine QD (h:=?_)|(refine Z9 (h1:=?_) (h2:=?_)<;>intro hc<;>try omega)|apply jW
      exact Qa (j+1,false,S2,T1) ⟨by dsimp only;omega,by dsimp only;omega,hW1,hV1,hok2,hr2⟩ aY aF ZV
   ·obtain⟨rfl,_⟩:=Q69 hop
    have hqs:¬q.sign=0:=fun h=>h0 (Int.sign_eq_zero_iff_zero.1 h)
    repeat' first|apply jO|apply jN|apply jT|refine Q1 ?_|refine Q7 ?_|(refine Ze (h1:=?_) (h2:=?_)<;>intro hc<;>try omega)|refine Q8 rfl ?_
    refine Q5 aA rfl aH rfl (fun w _ _=>Q33 w _ q K (Qi hqb) oq) fun w v w' _ _ _ hR=>?_
    subst hR
    skip
    refine Z2 (A:=[(b12,.cells (wc r) 35),(b11,.cells (wc q) 35)]) (N:=bf b W T1) (B:=[]) (R:=fun w _ w'=>jf b W i n T1 (S1.cols j t (aT (-q))) w w') rfl aA rfl aH rfl (fun w _ hs=>QN (Qdl K w b W i n T1 S1 j t (-q) hW1 (HSub.bU (by exact HSub.skip (HSub.skip (by simpa using HSub.refl _))) hs) hlt oq oq hm hn oq (by rw[Int.natAbs_neg];exact hqb) hb1) fun v w' h=>⟨h.1,h⟩) (fun w1 v1 w2 _ _ hk2 hR=>?_)
    obtain⟨T2,hk3,bH,hW2,hV2⟩:=hR.of hV1
    refine⟨bf b W T2,hk3,bH,?_⟩
    clear hk2 hR hk3 bH
    generalize S1.cols j t (aT (-q))=S2 at *
    repeat' first|apply jN
    refine JX.part (F':=[(12,.pointer (some ⟨b12,0,none⟩)),(10,nv j),(5,.bool dn),(0,.pointer (some ⟨b,0,none⟩)),(1,nv t)]) (H':=[(b12,.cells (wc r) 35),(b11,.cells (wc q) 35)]++(bf b W T2++[])) aF (HSub.refl _) ?_
    apply QE
    cases dn with
    | false =>
     rw[Bool.false_and]at hr2
     repeat' first|apply jO|apply jN|apply jT|refine Q1 ?_|refine Q0 ?_|refine Qj ?_|refine QC (h:=?_)|refine QU (h:=?_)|apply jW
     exact Qa (j+1,false,S2,T2) ⟨by dsimp only;omega,by dsimp only;omega,hW2,hV2,hok2,hr2⟩ aY aF ZV
    | true =>
     rw[Bool.true_and,hrd]at hr2
     repeat' first|refine Q1 ?_|refine Q7 ?_|apply jO
     refine Q5 aA rfl aH rfl (fun w _ _=>Y5 w _ r K (Qi hrb) oq) fun w v w' _ _ _ hR=>?_
     subst hR
     by_cases hr0:r=0
     ·rw[decide_eq_true hr0]at hr2
      rw[show r.sign=0 by rw[hr0];rfl]
      repeat' first|apply jO|apply jN|apply jT|refine Q1 ?_|refine Q0 ?_|refine Qj ?_|refine QD (h:=?_)|(refine Z9 (h1:=?_) (h2:=?_)<;>intro hc<;>try omega)|apply jW
      exact Qa (j+1,true,S2,T2) ⟨by dsimp only;omega,by dsimp only;omega,hW2,hV2,hok2,hr2⟩ aY aF ZV
     ·rw[decide_eq_false hr0]at hr2
      have hrs:¬r.sign=0:=fun h=>hr0 (Int.sign_eq_zero_iff_zero.1 h)
      repeat' first|apply jO|apply jN|apply jT|refine Q1 ?_|refine Q0 ?_|refine Qj ?_|refine QD (h:=?_)|(refine Z9 (h1:=?_) (h2:=?_)<;>intro hc<;>try omega)|apply jW
      exact Qa (j+1,false,S2,T2) ⟨by dsimp only;omega,by dsimp only;omega,hW2,hV2,hok2,hr2⟩ aY aF ZV
  ·obtain rfl:j=n:=by omega
   rw[Nat.sub_self,clPC]at hr
   obtain⟨rfl,rfl⟩:=Prod.mk.inj (Option.some.inj hr)
   repeat' first|apply jS|apply jO|apply jN|apply jT|refine Q1 ?_|refine Q3 ?_|refine Q0 ?_|refine Qb ?_|refine Ym (h:=?_)|refine Zo (h:=?_)|refine Yc (h:=?_)|refine Qz (h:=?_)|(refine Qs (h1:=?_) (h2:=?_)<;>intro hc<;>try omega)|apply jU|apply jE|apply jR|refine Q4 rfl ?_|apply Qe
   exact Qn rfl (fun a w'' st=>⟨⟨st.kp,T1,WG hW hW1 hV1,fun p hp=>st.hs.blk p hp,hW1,hV1⟩,rfl⟩)


theorem Qqp {x:Nat × Obj} {N2 N' M:aj}:HSub ([x]++(N'++((M++N2)++[]))) ((N2++[x])++(N'++(M++[]))):=⟨[],by
 classical
 rw[List.perm_iff_count]
 intro y
 simp only[List.count_append,List.count_nil]
 omega⟩
theorem Q5d (w:World) (v:Value) (m:ZM) (hm:cO m) (hv:fO w v m) :
  Calls Tryz.prog 103 #[v] w (aP fun v w'=>Kp [] w w'∧∃ N ts,New (N++tH ts) w w'∧bY N v m.c ts∧ts.map (·.2.2)=(List.range m.r).map (dh m)):=by
 obtain⟨E,rfl,hE⟩:=hv
 have hl:=hm.len
 have hle:=hm.le
 have hbr:=hm.r
 have hbc:=hm.c
 have hrc:m.r*m.c≤40000:=by rw[← hl];exact hle
 refine Q9 [] [] au [] Tryz.func103 rfl mixed (by kernel_rfl) Tryz.ntmps103 Tryz.results103 rfl ⟨by simp,by simp⟩ au ?_
 simp only[toS,Qd,Qt,Qk,Ql,ay,Qg,QA,aC]
 have hRE:=WZ.rd (c:=⟨Tryz.prog,32,w,[],by simp⟩) hE rfl []
 rw[hl]at hRE
 clear hE
 repeat' first|apply jS|apply jO|apply jN|refine Q3 ?_|refine Q0 ?_|refine Qb ?_|refine QB fun _=>?_|apply jT
 rename_i b1
 refine Yv (n:=m.r) rfl rfl rfl rfl rfl oq oq (fun b7=>?_)
 have hO:=Qcl b7 m.r hbr
 repeat' first|apply jS|apply jO|apply jN|apply jT|refine Q0 ?_|apply jB
 refine Qp (ι:=Nat × aj × List TR) ⟨fun z=>[(4,nv z.1),(3,.slice (some ⟨b7,0,none⟩) m.r m.r),(1,.pointer (some ⟨b1,0,none⟩))],
  fun z=>[(b1,.cells #[nv m.r,nv m.c,E] 26)]++(z.2.1++(tH z.2.2++[])),
  fun z=>z.1≤m.r∧aB 24 1 z.2.1 (.slice (some ⟨b7,0,none⟩) m.r m.r) m.r (z.2.2.map (·.2.1)++List.replicate (m.r-z.1) (.slice none 0 0))∧z.2.2.length=z.1∧(∀ t∈z.2.2,aG t.1 t.2.1 m.c t.2.2)∧z.2.2.map (·.2.2)=(List.range z.1).map (dh m),fun z=>m.r-z.1⟩
  (0,[(b7,.cells (Z1 #[.slice none 0 0] (m.r*1)) 24)],[]) ⟨by dsimp only;omega,hO,rfl,fun t ht=>(by cases ht),rfl⟩ aF ?_ (fun z hz=>?_)
 ·exact HSub.at 1 rfl (HSub.at 0 rfl (HSub.nil _))
 clear hO
 obtain⟨k,N,ts⟩:=z
 obtain⟨hkr,hO,hlen,hrows,hts⟩:=hz
 dsimp only at hkr hO hlen hrows hts ⊢
 by_cases hlt:k<m.r
 ·have hk1:(k+1)*m.c≤m.r*m.c:=V1 _ oq
  have hk2:k*m.c≤m.r*m.c:=V1 _ oq
  repeat' first|apply jS|apply jO|apply jN|apply jT|refine Q1 ?_|refine Q3 ?_|refine Qb ?_|(refine Qs (h1:=?_) (h2:=?_)<;>intro hc<;>try omega)|apply jK|refine Q8 rfl ?_|apply jB
  refine We rfl rfl rfl (fun b16=>?_)
  have hZ:aG [(b16,.cells #[] 35)] (.slice (some ⟨b16,0,none⟩) 0 0) 0 []:=by
   have:=aB.mk' (e:=35) (sz:=2) (n:=0) (b:=b16) (cs:=#[]) rfl (by simp only[maxLen];omega)
   exact this
  repeat' first|refine Q1 ?_|refine Q3 ?_|refine Qb ?_|refine Qj ?_|refine ZK (h:=?_)|fail
  refine Qgh rfl rfl rfl hRE rfl rfl hk1 (fun v28 hv28 _=>?_)
  skip
  refine Y3 (A:=[]) (B:=(b1,.cells #[nv m.r,nv m.c,E] 26)::(N++(tH ts++[]))) hZ hv28 (HSub.nil _) rfl aA rfl rfl rfl rfl oq (fun v' N2 hO2=>?_)
  rw[Vu,Vv]at hO2
  obtain⟨A2,c2,rfl⟩:=hO2.form
  skip
  refine Yw rfl rfl rfl rfl hO.rd hlt ?_
  skip
  refine Qk2 (A:=N2++[(b1,.cells #[nv m.r,nv m.c,E] 26)]) (B:=tH ts++[]) (i:=k) (u:=.slice A2 m.c c2) hO (by simp only[Vd,Vv,Vi]) rfl aA rfl rfl rfl rfl oq (fun N' aU=>?_)
  rw[Qg4 (by simpa using hlen) hlt]at aU
  repeat' first|apply jO|apply jN|apply jT|refine Q1 ?_|refine Q0 ?_|refine Qj ?_|apply jW
  refine Qa (k+1,N',ts++[(N2,.slice A2 m.c c2,dh m k)]) ⟨by dsimp only;omega,by dsimp only;simpa using aU,by simp[hlen],fun t ht=>?_,by dsimp only;rw[Vl,hts,List.range_succ,Vl];rfl⟩ aY aF ?_
  ·rcases List.mem_append.1 ht with ht|ht
   ·exact hrows t ht
   ·obtain rfl:=List.mem_singleton.1 ht
    exact hO2
  ·show HSub ([(b1,.cells #[nv m.r,nv m.c,E] 26 (0,0))]++(N'++(tH (ts++[(N2,.slice A2 m.c c2,dh m k)])++[]))) _
   rw[Q44,Qm0]
   exact Qqp
 ·repeat' first|apply jS|apply jO|apply jN|apply jT|refine Q1 ?_|refine Q3 ?_|refine Q0 ?_|refine Qb ?_|(refine Qs (h1:=?_) (h2:=?_)<;>intro hc<;>try omega)|apply jU|apply jE|apply jR|refine Q4 rfl ?_|apply Qe
  obtain rfl:k=m.r:=by omega
  rw[Nat.sub_self,List.replicate_zero,Vj]at hO
  exact Qn rfl (fun a w' st=>⟨st.kp,N,ts,st.aS rfl (by exact HSub.skip (by simpa using HSub.refl _)),⟨by rw[hlen];exact hO,hrows⟩,hts⟩)

theorem Q9w (w:World) (v:Value) (r c:Nat) (g:List (List Int)) (hv:IsG w v r c g) (hg:Rec r c g) (hr:r≤200) (hc:c≤200) :
  Calls Tryz.prog 111 #[v,nv c] w (aP fun u w'=>Kp [] w w'∧Q36 (gM r c g) w u w'):=by
 obtain⟨hgl,vs,hvs,hrow⟩:=hv
 have hvl:vs.length=r:=by have:=hvs.1;omega
 have hrc:r*c≤200*200:=Vr hr hc
 refine Q9 [⟨5,3,[],[]⟩] [] au [] Tryz.func111 rfl mixed (by kernel_rfl) Tryz.ntmps111 Tryz.results111 rfl ⟨by simp,by simp⟩ au ?_
 simp only[toS,Qd,Qt,Qk,Ql,ay,Qg,QA,aC]
 have hR:Rd ⟨Tryz.prog,26,w,[],by simp⟩ [] 1 v r vs:=hvs.rd rfl []
 have hRr:∀ i,i<r→jG ⟨Tryz.prog,26,w,[],by simp⟩ [] (vs.getD i (iv 0)) c (g.getD i []):=fun i hi=>(hrow i hi).rd rfl []
 repeat' first|apply jS|apply jO|apply jN|refine Q1 ?_|refine Qc fun _=>?_|apply jT
 refine XP rfl rfl rfl hR ?_
 repeat' first|apply jS|apply jO|apply jN|apply jT|refine Q1 ?_|refine Q0 ?_|refine Q7h (h:=?_)|refine Q2 ?_|refine Qc fun _=>?_|refine Q2 ?_|apply jB
 rename_i b4 b5
 refine Qp (ι:=Nat × aj × Value) ⟨fun z=>[(6,nv z.1),(5,.pointer (some ⟨b5,0,none⟩)),(4,.pointer (some ⟨b4,0,none⟩)),(0,v)],
  fun z=>[(b5,.cells #[nv r,nv c,z.2.2] 26),(b4,.cells #[iv 0,iv 0,.slice none 0 0] 26)]++(z.2.1++[]),
  fun z=>z.1≤r∧aG z.2.1 z.2.2 (z.1*c) (g.take z.1).flatten,fun z=>r-z.1⟩ (0,[],.slice none 0 0) ⟨V9 _,by dsimp only;rw[Nat.zero_mul];exact aG.nil⟩ aF (HSub.refl _) (fun z hz=>?_)
 obtain⟨i,N,E⟩:=z
 obtain⟨hir,hO⟩:=hz
 dsimp only at hir hO ⊢
 obtain⟨A,cap,rfl⟩:=hO.form
 by_cases hlt:i<r
 ·have hk1:(i+1)*c≤r*c:=V1 _ oq
  rw[Nat.succ_mul]at hk1
  have hRi:=hRr i hlt
  repeat' first|apply jS|refine Q1 ?_|apply jO
  refine XP rfl rfl rfl hR ?_
  repeat' first|apply jS|apply jN|apply jT|(refine Qs (h1:=?_) (h2:=?_)<;>intro hc<;>try omega)|apply jK|refine Q8 rfl ?_|apply jB
  refine Z7 [(b5,.cells #[nv r,nv c,.slice A (i*c) cap] 26),(b4,.cells #[iv 0,iv 0,.slice none 0 0] 26)] Qy ?_
  repeat' first|refine Q1 ?_|refine Q3 ?_|refine Qb ?_|fail
  refine Yw rfl rfl rfl rfl hR hlt ?_
  refine Q1d rfl rfl rfl rfl hR (HSub.nil _) (Xj (d:=iv 0) oq) ?_
  refine WM (A:=[_,_]) (B:=[]) hO hRi (HSub.nil _) rfl Qy rfl rfl rfl rfl oq (fun v' N' aU=>?_)
  rw[← Q9j oq, ← Nat.succ_mul]at aU
  obtain⟨A',cap',rfl⟩:=aU.form
  repeat' first|apply jO|apply jN|apply jT|refine Q1 ?_|refine Q3 ?_|refine Q0 ?_|refine Qj ?_|refine ZO (k:=_) (h:=?_)|apply jW
  exact Qa (i+1,N',.slice A' (i.succ*c) cap') ⟨by dsimp only;omega,aU⟩ aY aF (HSub.refl _)
 ·obtain rfl:i=r:=by omega
  rw[Vf oq]at hO
  repeat' first|apply jS|refine Q1 ?_|apply jO
  refine XP rfl rfl rfl hR ?_
  repeat' first|apply jS|apply jO|apply jN|apply jT|refine Q7 ?_|refine Q2 ?_|(refine Qs (h1:=?_) (h2:=?_)<;>intro hc<;>try omega)|refine Q2 ?_|apply jU|apply jE|apply jR|refine Q4 rfl ?_|apply Qe
  exact QQ 1 rfl rfl rfl (fun a w' st=>⟨st.kp,N,st.aS rfl Q6,fZ.mk' hO⟩)


theorem Qe6 {P:Program} {t e:TypeId} {n s:Nat} {zc cs:Array Value} {parts:Array (Nat × Value)} [hA:TAr P t n e] [hS:fU P e s] [hZ:iQ P t zc] (hc:Instr.fill (fun i=>some (i*s,s)) zc parts.toList=some cs) (w:World) :
  (Instr.build t parts).run P w=.ok (.agg cs) w:=by
 obtain⟨z,hz,rfl⟩:=hZ
 have h2:(zeroValue t).run P w=.ok z w:=by
  unfold zeroValue typeInfo
  cases hi:P.info? t with
  | none=>rw[hi]at hz;cases hz
  | some i=>rw[hi]at hz;simp only[Option.bind_some]at hz;simp[hi,hz]
 simp only[Instr.build,Sem.run_bind,h2,Result.andThen_ok,run_underlying hA.und,hS.size,hc,Sem.run_pure]

theorem Qkc {c:Cx} {Q:Exit→Act→World→Prop} {m:Mode} {F:ak} {H:aj} {r:List dA} {g:Option (Option Tmp × Bool)} {ns:Bool} {d:Tmp} {ty t e:TypeId} {n s:Nat} {zc cs:Array Value} {parts:Array (Nat × Operand)} {l:List (Nat × Value)} [TAr c.P t n e] [fU c.P e s] [iQ c.P t zc] (hd:Qx c.n (some d)=true) (hg:Qh F g=some true)
  (hp:Xl F parts.toList=some l) (hc:Instr.fill (fun i=>some (i*s,s)) zc l=some cs) (h:JO c Q m r ((d,(.agg cs))::F) H):JO c Q m (⟨some d,.build t parts,ty,g,.bC,ns⟩::r) F H :=
 Yb hd hg (fun a w fr=>by
  have h1:(parts.map fun(i,x)=>(i,a.eval x)).toList=l:=by rw[Array.toList_map];exact Wl fr hp
  simp only[execOp,Sem.run_bind,Qe6 (P:=c.P) (t:=t) (cs:=cs) (parts:=parts.map fun(i,x)=>(i,a.eval x)) (by rw[h1];exact hc),Result.andThen_ok,Sem.run_pure]) h


theorem Qn7 {c:Cx} {Q:Exit→Act→World→Prop} {F:ak} {H:aj} {s:dV} {ι:Type} (F0:ι→ak) (H0:ι→aj) (p:ι→Prop) (rest:∀ z,p z→JX c Q .normal (F0 z) (H0 z)) (h:(∀ z,p z→JX c Q .normal (F0 z) (H0 z))→JC c Q s F H):JC c Q s F H:=h rest
def QZ (m:ZM):List (List Int):=(List.range m.r).map (dh m)
theorem Ys {n:Nat} (hn:n≤200):QZ (gy n)=fJ n:=by
 unfold QZ fJ
 refine List.map_congr_left fun i hi=>?_
 have hi:i<n:=List.mem_range.1 hi
 rw[Q3i (m:=gy n) (Xg hn hn) hi]
 show tab n ((gy n).at i)=_
 unfold tab
 refine List.map_congr_left fun j hj=>?_
 have hj:j<n:=List.mem_range.1 hj
 exact Qet hi hj
theorem Qkk {K:Nat} {m:ZM} (hm:cO m) (h:cZ K m):jk K (QZ m)=true:=by
 unfold jk QZ
 refine List.all_eq_true.2 fun r hr=>?_
 obtain⟨i,hi,rfl⟩:=List.mem_map.1 hr
 have hi:i<m.r:=List.mem_range.1 hi
 rw[Q3i hm hi]
 refine List.all_eq_true.2 fun x hx=>?_
 obtain⟨j,hj,rfl⟩:=List.mem_map.1 hx
 exact decide_eq_true (h.at i j)
theorem Q7m (K n:Nat):jk (K+1) (fJ n)=true:=by
 unfold jk fJ
 refine List.all_eq_true.2 fun r hr=>?_
 obtain⟨i,hi,rfl⟩:=List.mem_map.1 hr
 refine List.all_eq_true.2 fun x hx=>?_
 obtain⟨j,hj,rfl⟩:=List.mem_map.1 hx
 refine decide_eq_true ?_
 split
 ·exact Yz K
 ·exact XZ _
theorem Yi {K:Nat} {a:ZM} (hm:cO a) (h:cZ (K+1) a):Ok (K+1) (QY a.r a.c (QZ a)):=⟨Q7m _ _,Q7m _ _,Qkk hm h,Q7m _ _,Q7m _ _⟩

def fH:Array Value:=#[iv 0,iv 0,.slice none 0 0,iv 0,iv 0,.slice none 0 0,iv 0,iv 0,.slice none 0 0,iv 0,iv 0,.slice none 0 0,iv 0,iv 0,.slice none 0 0]
def smC (m n:Nat) (E1 E2 E3 E4 E5:Value):Array Value:=#[nv m,nv m,E1,nv m,nv m,E2,nv m,nv n,E3,nv n,nv n,E4,nv n,nv n,E5]
def Qjh (m n:Nat) (S:Sm) (w:World) (v:Value) (w':World):Prop :=
 ∃ N1 N2 N3 N4 N5 E1 E2 E3 E4 E5,v=.agg (smC m n E1 E2 E3 E4 E5)∧Dm m n S∧New (N1++(N2++(N3++(N4++N5)))) w w'∧aG N1 E1 (m*m) S.u.flatten∧aG N2 E2 (m*m) S.ui.flatten∧aG N3 E3 (m*n) S.d.flatten∧aG N4 E4 (n*n) S.v.flatten∧aG N5 E5 (n*n) S.vi.flatten

theorem fM.g {c':Cx} {H N:aj} {v:Value} {r c:Nat} {ts:List TR} {g:List (List Int)} {w:World} (h:fM N v r c ts g) (hk:Kp c'.M c'.w0 w) (hs:aI H w) (h1:HSub N H) (h2:HSub (tH ts) H):IsG w v r c g:=by
 refine⟨h.rc.len,ts.map (·.2.1),by rw[← h.len];exact(bY.rd (c:=c') h.T).at hk hs h1,fun i hi=>?_⟩
 have hi':i<ts.length:=by have:=h.len;omega
 have e1:(ts.map (·.2.1)).getD i (iv 0)=tv ts i:=by rw[List.getD,Qf8 hi'];rfl
 have e2:g.getD i []=tr' ts i:=by
  rw[← h.eq]
  unfold tL tr'
  rw[List.getD,List.getElem?_map,List.getD,List.getElem?_eq_getElem hi']
  rfl
 rw[e1,e2]
 exact(aG.rd (c:=c') (h.T.row hi')).at hk hs ((Qfd (Qfa hi')).trans h2)
def tnR:Array Value:=#[.bool (decide ((1:Int)<0)),sv (bD (Int.natAbs 1)),.bool (decide ((1:Int)<0)),sv (bD (Int.natAbs 1)),.bool false,.string ⟨#[]⟩,.bool (decide ((1:Int)<0)),sv (bD (Int.natAbs 1))]
theorem Qt7:iq ⟨1,1,0,1⟩=tnR:=by
 have h:bD (Int.natAbs 0)=[]:=congrArg Prod.snd eU
 unfold iq tnR
 dsimp only
 rw[h]
 rfl
theorem Qq8 (K:Nat):BdT (K+1) ⟨1,1,0,1⟩:=⟨Yz K,Yz K,XZ _,Yz K⟩
theorem Q65 {a b4 b3 b2 b1 Nu tu Ni ti Nd td Nx tx Nj tj Nn Nm:aj} :
  (a++(b4++(b3++(b2++(b1++((Nj++tj)++((Nx++tx)++((Nd++td)++((Ni++ti)++((Nu++tu)++(Nn++(Nm++[])))))))))))).Perm
  ((b2++(b1++((a++(Nu++(tu++(Ni++(ti++(Nd++(td++(Nx++(tx++(Nj++(tj++[])))))))))))++[])))++(b4++(b3++(Nn++Nm)))):=by
 classical
 rw[List.perm_iff_count]
 intro x
 simp only[List.count_append,List.count_nil]
 omega

theorem Q0f {r c:Nat} {g:List (List Int)} {N:aj} {v:Value} (hg:Rec r c g) (h:aG N v (gM r c g).e.length (gM r c g).e):aG N v (r*c) g.flatten:=by
 have e:(gM r c g).e.length=r*c:=XA hg
 rw[e]at h
 exact h
theorem Qkh {x y z:Nat × Obj} {M1 M2 M3 M4 M5 R:aj}:HSub (M1++(M2++(M3++(M4++M5)))) (x::y::z::(M5++(M4++(M3++(M2++(M1++R)))))):=by
 refine HSub.skip (HSub.skip (HSub.skip ⟨R,?_⟩))
 classical
 rw[List.perm_iff_count]
 intro x
 simp only[List.count_append]
 omega

theorem Qds (K fc f:Nat) (w:World) (v:Value) (a:ZM) (S':Sm) (ha:cO a) (hv:fO w v a) (hK:K+1≤13400000000000) (hb:cZ (K+1) a)
  (hf:ZF (K+1) fc f a.r a.c (min a.r a.c) 0 (QY a.r a.c (QZ a))=some S') :
  Calls Tryz.prog 48 #[v] w (aP fun v w'=>Kp [] w w'∧Qjh a.r a.c S' w v w'):=by
 have hv0:=hv
 obtain⟨E,rfl,hE⟩:=hv
 have hle:=ha.le
 have hr:=ha.r
 have hac:=ha.c
 refine Q9 [⟨3,1,[0,1,3,4,2,5,6,7,8,9],[]⟩,⟨4,1,[0,2,4,6,8,11,12,13,14,15,1,3,5,7,9,10,16,17,18],[]⟩,⟨15,1,[0,1,2,3,4,5,6,8,9,10,11,12,13,14,16,17,18,19,20,21,22,24,25,26,27,28,29,30,32,33,34,35,36,37,38,7,15,23,31,39,40,41],[]⟩] [] au [] Tryz.func48 rfl mixed (by kernel_rfl) Tryz.ntmps48 Tryz.results48 rfl ⟨by simp,by simp⟩ au ?_
 simp only[toS,Qd,Qt,Qk,Ql,ay,Qg,QA,aC]
 repeat' first|apply jS|apply jO|apply jN|refine Q7 ?_|refine Qc fun _=>?_|refine QB fun _=>?_|apply jT
 rename_i b1 b2
 refine Q5 aA rfl aH rfl (fun w hk hs=>YY w _ a.xm (hv0.mono hk).x (by show (a.e.map wz).length<_;rw[List.length_map];omega)) fun w v w' _ _ _ hR=>?_
 obtain⟨t,rfl,ht⟩:=hR
 obtain rfl:t=true:=ht.2 ha.rx
 repeat' first|apply jS|apply jD|apply jN|apply jT|refine Q3 ?_|refine Qb ?_|refine QV (h:=?_)|apply jK|refine Q4 rfl ?_
 refine Qf (A:=[_,_]) (B:=[]) rfl aA rfl aH rfl (fun w hk hs=>Qsl a.r hr w) fun w v w' _ _ _ hR=>?_
 obtain⟨Nm,hNm,Em,rfl,hOm⟩:=hR
 obtain⟨Am,cm,rfl⟩:=hOm.form
 refine⟨Nm,hNm,?_⟩
 skip
 refine Qf (A:=[_,_]) (B:=Nm++[]) rfl aA rfl aH rfl (fun w hk hs=>Qsl a.c hac w) fun w v w' _ _ _ hR=>?_
 obtain⟨Nn,hNn,En,rfl,hOn⟩:=hR
 obtain⟨An,cn,rfl⟩:=hOn.form
 refine⟨Nn,hNn,?_⟩
 repeat' first|refine Q2 ?_|refine ZW (k:=_) (h:=?_)|refine Qc fun _=>?_|refine Q2 ?_|apply jN
 rename_i b3 b4
 refine JX.part (F':=[(4,.pointer (some ⟨b4,0,none⟩)),(3,.pointer (some ⟨b3,0,none⟩)),(2,.pointer (some ⟨b2,0,none⟩)),(1,.pointer (some ⟨b1,0,none⟩))])
  (H':=[(b4,.cells #[nv a.c,nv a.c,.slice An (gy a.c).e.length cn] 26),(b3,.cells #[nv a.r,nv a.r,.slice Am (gy a.r).e.length cm] 26),(b2,.cells (fH) 74),(b1,.cells #[nv a.r,nv a.c,E] 26)]++(Nn++(Nm++[]))) aF QK ?_
 apply QE
 repeat' first|apply jS|refine Q3 ?_|refine Qb ?_|refine Q7 ?_|apply jD
 refine Qkc (l:=[(0,nv a.r),(1,nv a.c)]) (cs:=#[nv a.r,nv a.c]) rfl rfl rfl rfl ?_
 skip
 refine Qf (A:=[_,_,_,_]) (B:=Nn++(Nm++([]))) rfl aA rfl aH rfl (fun w hk hs=>c_of w _ (gy a.r) (Xg hr hr) ⟨_,rfl,hOm.rd.at hk hs Q6⟩) fun w v w' _ _ _ hR=>?_
 obtain⟨Nu,tu,hNu,jL,hLu⟩:=hR
 obtain⟨Au,cu,rfl⟩:=jL.form
 refine⟨Nu++tH tu,hNu,?_⟩
 skip
 refine Qf (A:=[_,_,_,_]) (B:=(Nu++tH tu)++(Nn++(Nm++([])))) rfl aA rfl aH rfl (fun w hk hs=>c_of w _ (gy a.r) (Xg hr hr) ⟨_,rfl,hOm.rd.at hk hs Q6⟩) fun w v w' _ _ _ hR=>?_
 obtain⟨Ni,ti,hNi,hTi,hLi⟩:=hR
 obtain⟨Ai,ci,rfl⟩:=hTi.form
 refine⟨Ni++tH ti,hNi,?_⟩
 skip
 refine Qf (A:=[_,_,_,_]) (B:=(Ni++tH ti)++((Nu++tH tu)++(Nn++(Nm++([]))))) rfl aA rfl aH rfl (fun w hk hs=>c_of w _ a ha (hv0.mono hk)) fun w v w' _ _ _ hR=>?_
 obtain⟨Nd,td,hNd,hTd,hLd⟩:=hR
 obtain⟨Ad,cd,rfl⟩:=hTd.form
 refine⟨Nd++tH td,hNd,?_⟩
 skip
 refine Qf (A:=[_,_,_,_]) (B:=(Nd++tH td)++((Ni++tH ti)++((Nu++tH tu)++(Nn++(Nm++([])))))) rfl aA rfl aH rfl (fun w hk hs=>c_of w _ (gy a.c) (Xg hac hac) ⟨_,rfl,hOn.rd.at hk hs Q6⟩) fun w v w' _ _ _ hR=>?_
 obtain⟨Nx,tx,hNx,hTx,hLx⟩:=hR
 obtain⟨Ax,cx,rfl⟩:=hTx.form
 refine⟨Nx++tH tx,hNx,?_⟩
 skip
 refine Qf (A:=[_,_,_,_]) (B:=(Nx++tH tx)++((Nd++tH td)++((Ni++tH ti)++((Nu++tH tu)++(Nn++(Nm++([]))))))) rfl aA rfl aH rfl (fun w hk hs=>c_of w _ (gy a.c) (Xg hac hac) ⟨_,rfl,hOn.rd.at hk hs Q6⟩) fun w v w' _ _ _ hR=>?_
 obtain⟨Nj,tj,hNj,hTj,hLj⟩:=hR
 obtain⟨Aj,cj,rfl⟩:=hTj.form
 refine⟨Nj++tH tj,hNj,?_⟩
 skip
 refine ZP (l:=[(0,.slice Au tu.length cu),(1,.slice Ai ti.length ci),(2,.slice Ad td.length cd),(3,.slice Ax tx.length cx),(4,.slice Aj tj.length cj)]) (cs:=#[.slice Au tu.length cu,.slice Ai ti.length ci,.slice Ad td.length cd,.slice Ax tx.length cx,.slice Aj tj.length cj]) rfl rfl rfl rfl ?_
 skip
 refine ZP (l:=[(0,.agg #[.slice Au tu.length cu,.slice Ai ti.length ci,.slice Ad td.length cd,.slice Ax tx.length cx,.slice Aj tj.length cj]),(1,.agg #[nv a.r,nv a.c])]) (cs:=#[.slice Au tu.length cu,.slice Ai ti.length ci,.slice Ad td.length cd,.slice Ax tx.length cx,.slice Aj tj.length cj,nv a.r,nv a.c]) rfl rfl rfl rfl ?_
 repeat' first|refine Q0 ?_|refine QB fun _=>?_|apply jN
 rename_i gq
 obtain⟨W,hWd⟩:∃ W:WV,W=⟨.slice Au tu.length cu,.slice Ai ti.length ci,.slice Ad td.length cd,.slice Ax tx.length cx,.slice Aj tj.length cj,Nu,Ni,Nd,Nx,Nj⟩:=⟨_,rfl⟩
 obtain⟨T,hTd'⟩:∃ T:WT,T=⟨tu,ti,td,tx,tj⟩:=⟨_,rfl⟩
 have hW:dw W a.r a.c T (QY a.r a.c (QZ a)):=by
  subst hWd hTd'
  have hln:∀ {n:Nat} {g:Nat→List Int} {ts:List TR},ts.map (·.2.2)=(List.range n).map g→ts.length=n:=fun h=>by simpa using congrArg List.length h
  exact⟨⟨jL,hln hLu,hLu.trans (Ys hr)⟩,⟨hTi,hln hLi,hLi.trans (Ys hr)⟩,⟨hTd,hln hLd,hLd⟩,⟨hTx,hln hLx,hLx.trans (Ys hac)⟩,⟨hTj,hln hLj,hLj.trans (Ys hac)⟩⟩
 refine JX.part (F':=[(5,.pointer (some ⟨gq,0,none⟩)),(2,.pointer (some ⟨b2,0,none⟩)),(1,.pointer (some ⟨b1,0,none⟩))])
  (H':=[(b2,.cells fH 74),(b1,.cells #[nv a.r,nv a.c,E] 26)]++(bF gq W a.r a.c T++[])) aF ?_ ?_
 ·subst hWd hTd'
  exact⟨_,Q65 (a:=[_]) (b4:=[_]) (b3:=[_]) (b2:=[_]) (b1:=[_])⟩
 have hb0:=Yi ha hb
 clear jL hTi hTd hTx hTj hLu hLi hLd hLx hLj hOm hOn hWd hTd' hNu hNi hNd hNx hNj
 apply QE
 repeat' first|apply jS|apply jO
 refine Q5 aA rfl aH rfl (fun w _ _=>WE w 1 dq dq) fun w v w' _ _ _ hR=>?_
 subst hR
 repeat' first|apply jS|apply jO|apply jN|refine Q0 ?_|refine Q2 ?_|refine Qc fun _=>?_|refine Q2 ?_|apply jT
 rename_i b6
 have hmin:(if (a.c:Int)<(a.r:Int) then (a.c:Int) else (a.r:Int))=((min a.r a.c:Nat):Int):=by split<;>omega
 refine Qn7 (ι:=WT) (fun _=>[(6,.pointer (some ⟨b6,0,none⟩)),(5,.pointer (some ⟨gq,0,none⟩)),(2,.pointer (some ⟨b2,0,none⟩)),(1,.pointer (some ⟨b1,0,none⟩))]) (fun T=>[(b6,.cells (wc 1) 35),(b2,.cells fH 74),(b1,.cells #[nv a.r,nv a.c,E] 26)]++((gq,.cells (W.cells a.r a.c) 110)::(W.Nu++(tH T.u++(W.fB++(tH T.ui++(W.Nd++(tH T.d++(W.Nv++(tH T.v++(W.fG++(tH T.vi++[])))))))))))) (fun T=>dw W a.r a.c T S') (fun T hW=>?_) (fun rest=>?_)
 ·clear hf hb0
  apply QE
  repeat' first|apply jS|refine Q1 ?_|refine Q3 ?_|refine Qb ?_|refine Qz (h:=?_)|apply jD
  refine Qf (A:=[_,_,_]) (B:=((gq,.cells (W.cells a.r a.c) 110)::(W.Nu++(tH T.u++(W.fB++(tH T.ui++(W.Nd++(tH T.d++(W.Nv++(tH T.v++(W.fG++(tH T.vi++[])))))))))))) rfl aA rfl aH rfl (fun w hk hs=>Q9x w _ a.r a.r S'.u (hW.u.g hk hs Q6 Q6) hW.u.rc hr hr) fun w v w' _ _ _ hR=>?_
  obtain⟨M1,hM1,E1,rfl,bT⟩:=hR
  obtain⟨A1,c1,rfl⟩:=bT.form
  refine⟨M1,hM1,?_⟩
  skip
  refine Qf (A:=[_,_,_]) (B:=M1++(((gq,.cells (W.cells a.r a.c) 110)::(W.Nu++(tH T.u++(W.fB++(tH T.ui++(W.Nd++(tH T.d++(W.Nv++(tH T.v++(W.fG++(tH T.vi++[]))))))))))))) rfl aA rfl aH rfl (fun w hk hs=>Q9x w _ a.r a.r S'.ui (hW.ui.g hk hs Q6 Q6) hW.ui.rc hr hr) fun w v w' _ _ _ hR=>?_
  obtain⟨M2,hM2,E2,rfl,hO2⟩:=hR
  obtain⟨A2,c2,rfl⟩:=hO2.form
  refine⟨M2,hM2,?_⟩
  skip
  refine Qf (A:=[_,_,_]) (B:=M2++(M1++(((gq,.cells (W.cells a.r a.c) 110)::(W.Nu++(tH T.u++(W.fB++(tH T.ui++(W.Nd++(tH T.d++(W.Nv++(tH T.v++(W.fG++(tH T.vi++[])))))))))))))) rfl aA rfl aH rfl (fun w hk hs=>Q9x w _ a.r a.c S'.d (hW.d.g hk hs Q6 Q6) hW.d.rc hr hac) fun w v w' _ _ _ hR=>?_
  obtain⟨M3,hM3,E3,rfl,hO3⟩:=hR
  obtain⟨A3,c3,rfl⟩:=hO3.form
  refine⟨M3,hM3,?_⟩
  skip
  refine Qf (A:=[_,_,_]) (B:=M3++(M2++(M1++(((gq,.cells (W.cells a.r a.c) 110)::(W.Nu++(tH T.u++(W.fB++(tH T.ui++(W.Nd++(tH T.d++(W.Nv++(tH T.v++(W.fG++(tH T.vi++[]))))))))))))))) rfl aA rfl aH rfl (fun w hk hs=>Q9x w _ a.c a.c S'.v (hW.v.g hk hs Q6 Q6) hW.v.rc hac hac) fun w v w' _ _ _ hR=>?_
  obtain⟨M4,hM4,E4,rfl,hO4⟩:=hR
  obtain⟨A4,c4,rfl⟩:=hO4.form
  refine⟨M4,hM4,?_⟩
  skip
  refine Qf (A:=[_,_,_]) (B:=M4++(M3++(M2++(M1++(((gq,.cells (W.cells a.r a.c) 110)::(W.Nu++(tH T.u++(W.fB++(tH T.ui++(W.Nd++(tH T.d++(W.Nv++(tH T.v++(W.fG++(tH T.vi++[])))))))))))))))) rfl aA rfl aH rfl (fun w hk hs=>Q9x w _ a.c a.c S'.vi (hW.vi.g hk hs Q6 Q6) hW.vi.rc hac hac) fun w v w' _ _ _ hR=>?_
  obtain⟨M5,hM5,E5,rfl,iL⟩:=hR
  obtain⟨A5,c5,rfl⟩:=iL.form
  refine⟨M5,hM5,?_⟩
  skip
  refine ZP (l:=[(0,.agg #[nv a.r,nv a.r,.slice A1 (gM a.r a.r S'.u).e.length c1]),(1,.agg #[nv a.r,nv a.r,.slice A2 (gM a.r a.r S'.ui).e.length c2]),(2,.agg #[nv a.r,nv a.c,.slice A3 (gM a.r a.c S'.d).e.length c3]),(3,.agg #[nv a.c,nv a.c,.slice A4 (gM a.c a.c S'.v).e.length c4]),(4,.agg #[nv a.c,nv a.c,.slice A5 (gM a.c a.c S'.vi).e.length c5])]) (cs:=smC a.r a.c (.slice A1 (gM a.r a.r S'.u).e.length c1) (.slice A2 (gM a.r a.r S'.ui).e.length c2) (.slice A3 (gM a.r a.c S'.d).e.length c3) (.slice A4 (gM a.c a.c S'.v).e.length c4) (.slice A5 (gM a.c a.c S'.vi).e.length c5)) rfl rfl rfl (by kernel_rfl) ?_
  repeat' first|apply jN|apply jT|refine Q2 ?_|refine Q2 ?_|apply jR
  exact QQ 1 rfl rfl rfl (fun a w' st=>⟨st.kp,M1,M2,M3,M4,M5,_,_,_,_,_,rfl,⟨hW.u.rc,hW.ui.rc,hW.d.rc,hW.v.rc,hW.vi.rc⟩,st.aS rfl (by exact Qkh),Q0f hW.u.rc bT,Q0f hW.ui.rc hO2,Q0f hW.d.rc hO3,Q0f hW.v.rc hO4,Q0f hW.vi.rc iL⟩)
 refine JC.block ?_
 refine Qp (ι:=Nat × Sm × WT) ⟨fun z=>[(7,nv z.1),(6,.pointer (some ⟨b6,0,none⟩)),(5,.pointer (some ⟨gq,0,none⟩)),(2,.pointer (some ⟨b2,0,none⟩)),(1,.pointer (some ⟨b1,0,none⟩))],fun z=>[(b6,.cells (wc 1) 35),(b2,.cells fH 74),(b1,.cells #[nv a.r,nv a.c,E] 26)]++((gq,.cells (W.cells a.r a.c) 110)::(W.Nu++(tH z.2.2.u++(W.fB++(tH z.2.2.ui++(W.Nd++(tH z.2.2.d++(W.Nv++(tH z.2.2.v++(W.fG++(tH z.2.2.vi++[]))))))))))),
  fun z=>z.1≤min a.r a.c∧dw W a.r a.c z.2.2 z.2.1∧Ok (K+1) z.2.1∧ZF (K+1) fc f a.r a.c (min a.r a.c-z.1) z.1 z.2.1=some S',fun z=>min a.r a.c-z.1⟩ (0,QY a.r a.c (QZ a),T)
  ⟨V9 _,hW,hb0,by rw[Nat.sub_zero];exact hf⟩ aF (by simp only[bF,Vi,Vv,Vd,Vj];exact HSub.refl _) (fun z hz=>?_)
 clear hW hb0 hf
 obtain⟨t,S,T⟩:=z
 obtain⟨htl,hW,hb0,hf⟩:=hz
 dsimp only at htl hW hb0 hf ⊢
 by_cases htk:t<min a.r a.c
 ·have gB:t<a.r:=by omega
  have htn:t<a.c:=by omega
  obtain⟨S1,fl,hp,hff,hft⟩:=WQ (show ZF (K+1) fc f a.r a.c (min a.r a.c-(t+1)+1) t S=some S' by rw[show min a.r a.c-(t+1)+1=min a.r a.c-t by omega];exact hf)
  have hb1:=Q92 hp hb0
  clear hf
  repeat' first|apply jS|refine Q1 ?_|refine Q3 ?_|refine Qb ?_|refine Qea (h:=?_)|(refine Qs (h1:=?_) (h2:=?_)<;>intro hc<;>try omega)|apply jO
  refine Z2 (A:=[(b6,.cells (wc 1) 35),(b2,.cells fH 74),(b1,.cells #[nv a.r,nv a.c,E] 26)]) (N:=bF gq W a.r a.c T) (B:=[]) (R:=fun w v w'=>jJ gq W a.r a.c T S1 w w'∧v=.bool fl) (by simp only[bF,Vi,Vv,Vd,Vj]) aA rfl aH rfl (fun w _ hs=>?_) (fun w1 v1 w2 _ _ hk2 hR=>?_)
  ·have hs1:aI (bF gq W a.r a.c T) w:=HSub.bU (by exact HSub.skip (HSub.skip (HSub.skip (by first|exact HSub.refl _|exact QI|simpa [bF] using HSub.refl _)))) hs
   exact QN (Qpr (K+1) w gq W a.r a.c T S S1 fl t hW hs1 gB htn hr hac hK hb0 hp) fun v w' h=>⟨h.1.1,h⟩
  ·obtain⟨⟨_,T1,hk1,hin1,hW1,hV1⟩,rfl⟩:=hR
   refine⟨bF gq W a.r a.c T1,hk1,hin1,?_⟩
   clear hW hV1 hk1 hin1 hk2 hp
   cases fl with
   | false =>
    obtain rfl:=hff rfl
    repeat' first|refine QD (h:=?_)|apply jN
    apply QE
    repeat' first|apply jU|apply jE|refine Q4 rfl ?_|apply Qe
    exact JX.part aF (by simpa [bF] using HSub.refl _) (rest T1 hW1)
   | true =>
    obtain⟨S2,hst,hrest⟩:=hft rfl
    have hb2:=Q4b hst hb1
    clear hff hft
    repeat' first|apply jS|apply jN|apply jT|refine QD (h:=?_)|apply jK|refine Q8 rfl ?_|apply jB
    refine Qp (ι:=Nat × Sm × WT) ⟨fun z=>[(7,nv t),(6,.pointer (some ⟨b6,0,none⟩)),(5,.pointer (some ⟨gq,0,none⟩)),(2,.pointer (some ⟨b2,0,none⟩)),(1,.pointer (some ⟨b1,0,none⟩))],fun z=>[(b6,.cells (wc 1) 35),(b2,.cells fH 74),(b1,.cells #[nv a.r,nv a.c,E] 26)]++((gq,.cells (W.cells a.r a.c) 110)::(W.Nu++(tH z.2.2.u++(W.fB++(tH z.2.2.ui++(W.Nd++(tH z.2.2.d++(W.Nv++(tH z.2.2.v++(W.fG++(tH z.2.2.vi++[]))))))))))),
     fun z=>dw W a.r a.c z.2.2 z.2.1∧Ok (K+1) z.2.1∧Zz (K+1) fc t a.r a.c z.1 z.2.1=some S2,fun z=>z.1⟩ (f,S1,T1)
     ⟨hW1,hb1,hst⟩ aF (by simpa [bF] using HSub.refl _) (fun z hz=>?_)
    clear hW1 hb1 hst
    obtain⟨g,S1,T1⟩:=z
    obtain⟨hW1,hb1,hst⟩:=hz
    dsimp only at hW1 hb1 hst ⊢
    cases g with
    | zero=>cases hst
    | succ g =>
    obtain⟨Sa,hcr,hsp⟩:=W8 hst
    have hba:=Q57 hcr hb1
    clear hst
    repeat' first|apply jS|apply jO|refine Q1 ?_|apply jB
    refine Z2 (A:=[(b6,.cells (wc 1) 35),(b2,.cells fH 74),(b1,.cells #[nv a.r,nv a.c,E] 26)]) (N:=bF gq W a.r a.c T1) (B:=[]) (R:=fun w v w'=>jJ gq W a.r a.c T1 Sa w w') (by simp only[bF,Vi,Vv,Vd,Vj]) aA rfl aH rfl (fun w _ hs=>?_) (fun w1 v1 w2 _ _ hk2 hR=>?_)
    ·have hs1:aI (bF gq W a.r a.c T1) w:=HSub.bU (by exact HSub.skip (HSub.skip (HSub.skip (by first|exact HSub.refl _|exact QI|simpa [bF] using HSub.refl _)))) hs
     exact QN (Qpv (K+1) fc w gq W a.r a.c T1 S1 Sa t hW1 hs1 gB htn hr hac hK hb1 hcr) fun v w' h=>⟨h.1,h⟩
    obtain⟨_,T2,hk3,bH,hW2,_⟩:=hR
    refine⟨bF gq W a.r a.c T2,hk3,bH,?_⟩
    clear hW1 hk3 bH hk2
    repeat' first|apply jS|apply jO|apply jN|refine Q1 ?_|apply jT
    refine Z2 (A:=[(b6,.cells (wc 1) 35),(b2,.cells fH 74),(b1,.cells #[nv a.r,nv a.c,E] 26)]) (N:=bF gq W a.r a.c T2) (B:=[]) (R:=fun w v w'=>jJ gq W a.r a.c T2 Sa w w'∧v=spV (Z0 Sa t a.r a.c)) (by simp only[bF,Vi,Vv,Vd,Vj]) aA rfl aH rfl (fun w _ hs=>?_) (fun w1 v1 w2 _ _ hk2 hR=>?_)
    ·have hs1:aI (bF gq W a.r a.c T2) w:=HSub.bU (by exact HSub.skip (HSub.skip (HSub.skip (by first|exact HSub.refl _|exact QI|simpa [bF] using HSub.refl _)))) hs
     exact QN (Qim (K+1) w gq W a.r a.c T2 Sa t hW2 hs1 gB htn hr hac hK hba) fun v w' h=>⟨h.1.1,h⟩
    obtain⟨⟨_,T3,hk3,bH,hW3,_⟩,rfl⟩:=hR
    refine⟨bF gq W a.r a.c T3,hk3,bH,?_⟩
    clear hW2 hk3 bH hk2
    rcases hsp with ⟨hn,rfl⟩|⟨i,Sb,hi,hck,hst⟩
    ·rw[hn]
     clear hn hcr hb1
     have hld:=hW3.d.len
     have hT3:=hW3.d.T
     have hVr:∀ a,tv T3.d a=tv T3.d a:=fun _=>rfl
     have hx:(tM T3.d t t).natAbs<256 ^ (K+1):=Q1i hW3.d hba.d t t
     simp only[bF,Vi,Vv,Vd,Vj]
     repeat' first|apply jS|apply jO|apply jN|apply jT|refine Q1 ?_|refine Q3 ?_|refine Q0 ?_|refine Qb ?_|refine QW (h:=?_)|refine Zo (h:=?_)|refine Y2 (h:=?_)|refine Yc (h:=?_)|refine QV (h:=?_)|refine Qz (h:=?_)|refine Qv (h:=?_)|apply jU|apply jE|refine Q8 rfl ?_|apply Qe|refine XY rfl ?_
     refine Q5 aA rfl aH rfl (fun w _ _=>XU w _ (tM T3.d t t) (K+1) (Qi hx) oq) fun w v w' _ _ _ hR=>?_
     subst hR
     have hdt:tM T3.d t t=gE Sa.d t t:=hW3.d.at t t
     rw[hdt]
     by_cases hneg:gE Sa.d t t<0
     ·rw[if_pos hneg]at hrest
      have hsg:(gE Sa.d t t).sign<0:=Int.sign_neg_iff.2 hneg
      repeat' first|apply jO|apply jN|apply jT|refine Q1 ?_|(refine Qs (h1:=?_) (h2:=?_)<;>intro hc<;>try omega)|refine Q8 rfl ?_
      refine Z2 (A:=[(b6,.cells (wc 1) 35),(b2,.cells fH 74),(b1,.cells #[nv a.r,nv a.c,E] 26)]) (N:=bF gq W a.r a.c T3) (B:=[]) (R:=fun w v w'=>jJ gq W a.r a.c T3 (Sa.neg t) w w') (by simp only[bF,Vi,Vv,Vd,Vj]) aA rfl aH rfl (fun w _ hs=>?_) (fun w1 v1 w2 _ _ hk2 hR=>?_)
      ·have hs1:aI (bF gq W a.r a.c T3) w:=HSub.bU (by exact HSub.skip (HSub.skip (HSub.skip (by first|exact HSub.refl _|exact QI|simpa [bF] using HSub.refl _)))) hs
       exact QN (Qlf (K+1) w gq W a.r a.c T3 Sa t hW3 hs1 gB hr hac hK hba) fun v w' h=>⟨h.1,h⟩
      obtain⟨_,T4,hk4,hin4,hW4,_⟩:=hR
      refine⟨bF gq W a.r a.c T4,hk4,hin4,?_⟩
      repeat' first|apply jO|apply jN|apply jT|refine Q1 ?_|refine Q0 ?_|refine Qj ?_|apply jW
      exact Qa (t+1,Sa.neg t,T4) ⟨by dsimp only;omega,hW4,Q99 hba,hrest⟩ aY aF (by simpa [bF] using HSub.refl _)
     ·rw[if_neg hneg]at hrest
      have hsg:¬(gE Sa.d t t).sign<0:=fun h=>hneg (Int.sign_neg_iff.1 h)
      repeat' first|apply jO|apply jN|apply jT|refine Q1 ?_|refine Q0 ?_|refine Qj ?_|(refine Qs (h1:=?_) (h2:=?_)<;>intro hc<;>try omega)|apply jK|refine Q4 rfl ?_|apply jW
      exact Qa (t+1,Sa,T3) ⟨by dsimp only;omega,hW3,hba,hrest⟩ aY aF (by simpa [bF] using HSub.refl _)
    ·rw[hi]
     have hlt:=Wa hi
     obtain⟨rfl,hbb⟩:=Zl hck
     clear hi hcr hb1
     repeat' first|apply jS|apply jO|apply jN|apply jT|refine Q1 ?_|refine Q0 ?_|refine Q7 ?_|refine QV (h:=?_)|refine Qv (h:=?_)|refine Q3j (h:=?_)|apply jK|refine Q4 rfl ?_
     refine ZP (l:=[(0,.agg (wc 1)),(1,.agg (wc 1)),(2,.agg #[.bool false,.string ⟨#[]⟩]),(3,.agg (wc 1))]) (cs:=tnR) rfl rfl rfl (by kernel_rfl) ?_
     skip
     refine Z2 (A:=[(b6,.cells (wc 1) 35),(b2,.cells fH 74),(b1,.cells #[nv a.r,nv a.c,E] 26)]) (N:=bF gq W a.r a.c T3) (B:=[]) (R:=fun w v w'=>jJ gq W a.r a.c T3 (Sa.rows t i ⟨1,1,0,1⟩) w w') (by simp only[bF,Vi,Vv,Vd,Vj]) aA rfl aH rfl (fun w _ hs=>?_) (fun w1 v1 w2 _ _ hk2 hR=>?_)
     ·have hs1:aI (bF gq W a.r a.c T3) w:=HSub.bU (by exact HSub.skip (HSub.skip (HSub.skip (by first|exact HSub.refl _|exact QI|simpa [bF] using HSub.refl _)))) hs
      have h:=Qb6 (K+1) w gq W a.r a.c T3 Sa t i ⟨1,1,0,1⟩ hW3 hs1 oq oq oq hr hac oq (Qq8 K) hba
      rw[Qt7]at h
      exact QN h fun v w' h=>⟨h.1,h⟩
     obtain⟨_,T4,hk4,hin4,hW4,_⟩:=hR
     refine⟨bF gq W a.r a.c T4,hk4,hin4,?_⟩
     repeat' first|apply jN|apply jW
     exact Qa (g,Sa.rows t i ⟨1,1,0,1⟩,T4) ⟨hW4,hbb,hst⟩ aY aF (by simpa [bF] using HSub.refl _)
 ·have:ZF (K+1) fc f a.r a.c 0 t S=some S':=by rw[show min a.r a.c-t=0 by omega]at hf;exact hf
  rw[ZF]at this
  obtain rfl:=Option.some.inj this
  repeat' first|apply jS|apply jO|refine Q1 ?_|refine Q3 ?_|refine Qb ?_|refine Qea (h:=?_)|refine QC (h:=?_)|(refine Qs (h1:=?_) (h2:=?_)<;>intro hc<;>try omega)|refine QU (h:=?_)|apply jN
  apply QE
  repeat' first|apply jU|apply jE|refine Q4 rfl ?_|apply Qe
  exact JX.part aF (by simpa [bF] using HSub.refl _) (rest T hW)


theorem Qs7 {r c i j:Nat} (hi:i<r) (hj:j<c):i*c+j<r*c:=by
 have:=V1 c (show i+1≤r by omega)
 rw[Vo]at this
 omega
def fC (w:World) (v:Value) (xss:List (List Int)):Prop:=∃ ss:List Value,je w 1 v xss.length ss∧∀ i,i<xss.length→WI w (ss.getD i (iv 0)) (xss.getD i []).length (xss.getD i [])
theorem fC.mono {w w':World} {v:Value} {xss:List (List Int)} (h:fC w v xss) (hk:Kp [] w w'):fC w' v xss:=by
 obtain⟨ss,h1,h2⟩:=h
 exact⟨ss,h1.mono hk,fun i hi=>(h2 i hi).mono hk⟩
def jw (xss:List (List Int)):Nat→Nat
 | 0=>0
 | k+1=>max (jw xss k) (xss.getD k []).length
theorem Qh4 (xss:List (List Int)):∀ {k i:Nat},i<k→(xss.getD i []).length≤jw xss k
 | 0,i,h=>by omega
 | k+1,i,h=>by
  rw[jw]
  by_cases hi:i=k
  ·subst hi;exact Nat.le_max_right _ _
  ·exact V0 (Qh4 xss (show i<k by omega)) (Nat.le_max_left _ _)
theorem Qcs (xss:List (List Int)) {b:Nat} (h:∀ i,(xss.getD i []).length≤b):∀ k,jw xss k≤b
 | 0=>V9 _
 | k+1=>by rw[jw];have:=Qcs xss h k;have:=h k;omega
theorem Qru (a b:Nat):(if (a:Int)<(b:Int) then (b:Int) else (a:Int))=((max a b:Nat):Int):=by
 split<;>omega

def ofE (xss:List (List Int)) (i j:Nat):Int:=(xss.getD i []).getD j 0
def ofZ (xss:List (List Int)):ZM:=zof xss.length (jw xss xss.length) (ofE xss)
def ofS (xss:List (List Int)) (i k:Nat):Mi:=fun a b=>if a<i∨(a=i∧b<k) then ofE xss a b else 0
theorem Qkm (r c:Nat) (xss:List (List Int)):gu r c (ofS xss 0 0)=tab (r*c) fun _=>0:=by
 unfold gu ofS
 exact Y0 fun t _=>by simp
theorem Qol {r c i k:Nat} {xss:List (List Int)} (hk:k<c):(gu r c (ofS xss i k)).set (i*c+k) (ofE xss i k)=gu r c (ofS xss i (k+1)):=by
 rw[Q71 hk]
 refine Z3 fun a b _ _=>?_
 unfold ofS
 by_cases h:a=i∧b=k
 ·obtain⟨rfl,rfl⟩:=h;simp
 ·rw[if_neg h]
  have e:(a<i∨a=i∧b<k+1)=(a<i∨a=i∧b<k):=by simp;omega
  simp only[e]
theorem Qoo {i j:Nat} {xss:List (List Int)} (h:(xss.getD i []).length≤j):ofE xss i j=0:=by
 unfold ofE
 rw[List.getD,List.getElem?_eq_none h];rfl
theorem Qom {r c i k:Nat} {xss:List (List Int)} (hk:(xss.getD i []).length≤k):gu r c (ofS xss i k)=gu r c (ofS xss (i+1) 0):=by
 refine Z3 fun a b _ _=>?_
 unfold ofS
 by_cases h:a=i
 ·subst h
  by_cases hb:b<k
  ·rw[if_pos (.inr ⟨rfl,hb⟩),if_pos (.inl oq)]
  ·rw[if_neg oq,if_pos (.inl oq),Qoo oq]
 ·have e:(a<i∨a=i∧b<k)=(a<i+1∨a=i+1∧b<0):=by simp;omega
  simp only[e]
theorem Qon {r c i:Nat} {xss:List (List Int)} (hi:r≤i):gu r c (ofS xss i 0)=gu r c (ofE xss):=by
 refine Z3 fun a b ha _=>?_
 unfold ofS;rw[if_pos (.inl oq)]
def I64 (n:Int):Prop := -9223372036854775808≤n∧n<9223372036854775808


theorem Q5e (r c:Int) (w:World):Calls Tryz.prog 54 #[.int .i64 r,.int .i64 c] w (aP fun v w'=>Kp [] w w'∧eX (0≤r∧r≤200∧0≤c∧c≤200) v):=by
 refine Q9 [] [] au [] Tryz.func54 rfl mixed (by kernel_rfl) Tryz.ntmps54 Tryz.results54 rfl ⟨by simp,by simp⟩ au ?_
 simp only[toS,Qd,Qt,Qk,Ql,ay,Qg,QA,aC]
 repeat' first|apply jS|apply jO|apply jN|apply jT|refine Q1 ?_|refine Q0 ?_|refine QD (h:=?_)|refine QC (h:=?_)|(refine Q7f (h1:=?_) (h2:=?_)<;>intro hc<;>try omega)|(refine Yx (h1:=?_) (h2:=?_)<;>intro hc<;>try omega)|refine QU (h:=?_)|apply jR
 all_goals first
  | exact Qn rfl (fun a w st=>⟨st.kp,eX.t oq⟩)
  | exact Qn rfl (fun a w st=>⟨st.kp,eX.f oq⟩)

theorem Q1u (r c:Nat) (hr:r≤200) (hc:c≤200) (w:World):Calls Tryz.prog 19 #[.int .i64 r,.int .i64 c] w (aP fun v w'=>Kp [] w w'∧Zeros r c w v w'):=by
 have hb:=rcZ hr hc
 refine Q9 [] [] au [] Tryz.func19 rfl mixed (by kernel_rfl) Tryz.ntmps19 Tryz.results19 rfl ⟨by simp,by simp⟩ au ?_
 simp only[toS,Qd,Qt,Qk,Ql,ay,Qg,QA,aC]
 repeat' first|apply jS|apply jO|apply jN|refine Q1 ?_|refine Qc fun _=>?_|apply jT
 refine Q5 trivial rfl rfl rfl (fun w _ _=>Q5e r c w) fun w v w' _ _ _ hR=>?_
 obtain⟨b,rfl,hb⟩:=hR
 obtain rfl:=hb.2 oq
 repeat' first|apply jS|apply jO|apply jN|apply jT|refine Q1 ?_|refine Q0 ?_|refine ZK (h:=?_)|refine QV (h:=?_)|apply jK|refine Q4 rfl ?_
 refine Yv rfl rfl rfl rfl rfl oq oq (fun b=>?_)
 repeat' first|apply jN|apply jT|refine Q2 ?_|refine Zh (h:=?_)|refine Q2 ?_|apply jR
 have:=Xc b (r*c) (by simp only[maxLen];omega)
 exact QQ 1 rfl rfl rfl (fun a w st=>⟨st.kp,_,_,st.aS rfl (HSub.at 0 rfl (HSub.nil _)),rfl,this⟩)

section
variable {c:Cx} {Q:Exit→Act→World→Prop} {m:Mode} {F:ak} {H:aj} {r:List dA} {g:Option (Option Tmp × Bool)} {ns:Bool} {d:Tmp} {ty t t':TypeId} {x y:Operand}
end

def IsS (w:World) (v:Value) (R C:Nat) (L:List Int):Prop:=R<256∧C<256∧(∀ i,I64 (L.getD i 0))∧∃ E,v=.agg #[.int .u8 (R:Int),.int .u8 (C:Int),E]∧WI w E L.length L
theorem IsS.mono {w w':World} {v:Value} {R C:Nat} {L:List Int} (h:IsS w v R C L) (hk:Kp [] w w'):IsS w' v R C L:=by
 obtain⟨h1,h2,h3,E,h5,h6⟩:=h
 exact⟨h1,h2,h3,E,h5,h6.mono hk⟩


theorem Qig {xs:List WR} {k:Nat} (hk:k<xs.length) (h:gZ (xs.getD k w0x)=true):¬Canon xs:=fun hc=>Q5c.1 hc ⟨_,YA hk,h⟩

theorem Q0g (w:World) (E:Value) (n:Nat) (xs:List WR) (hE:WX w E n xs) (hn:n<1000000000) :
  Calls Tryz.prog 66 #[E] w (aP fun v w'=>Kp [] w w'∧eX (Canon xs) v):=by
 have hl:=hE.len
 refine Q9 [] [] au [] Tryz.func66 rfl mixed (by kernel_rfl) Tryz.ntmps66 Tryz.results66 rfl ⟨by simp,by simp⟩ au ?_
 simp only[toS,Qd,Qt,Qk,Ql,ay,Qg,QA,aC]
 have hR:=WX.rd (c:=⟨Tryz.prog,40,w,[],by simp⟩) hE rfl []
 repeat' first|apply jS|apply jO|apply jN|apply jT|refine Q0 ?_|apply jB
 refine Qp (ι:=Nat) ⟨fun k=>[(3,nv k),(0,E)],fun _=>[],fun k=>k≤n∧∀ j,j<k→gZ (xs.getD j w0x)=false,fun k=>n-k⟩ 0 ⟨by omega,fun j h=>by omega⟩ aF (HSub.nil _) (fun k hk=>?_)
 obtain⟨hkn,hpr⟩:=hk
 dsimp only
 by_cases hlt:k<n
 ·repeat' first|apply jS|apply jO|apply jN|apply jT|refine Q1 ?_|refine Q62 (h:=?_)|refine Qc7 (h:=?_)|refine Q1e (h:=?_)|refine Q4h (h:=?_)|refine Qk9 (h:=?_)|(refine Qs (h1:=?_) (h2:=?_)<;>intro hc<;>try omega)|apply jK|refine Q8 rfl ?_|apply jB
  have hxk:∀ x,xs.getD k w0x=x→gZ x=true→¬Canon xs:=fun x hx hb=>Qig (k:=k) oq (by rw[hx];exact hb)
  have hnx:∀ x,xs.getD k w0x=x→gZ x=false→∀ j,j<k+1→gZ (xs.getD j w0x)=false:=fun x hx hb j hj=>by
   rcases Nat.lt_or_ge j k with h|h
   ·exact hpr j h
   ·obtain rfl:j=k:=by omega
    rw[hx];exact hb
  rcases hx:xs.getD k w0x with ⟨p,l⟩
  cases l with
  | nil =>
   simp only[decide_true]
   repeat' first|refine Q1 ?_|refine Q62 (h:=?_)|refine Qre (h:=?_)|refine Q1e (h:=?_)|refine QD (h:=?_)|fail
   rw[hx]
   cases p
   ·repeat' first|refine Q1 ?_|refine Q62 (h:=?_)|refine Qc7 (h:=?_)|refine Q1e (h:=?_)|refine Qap (h:=?_)|fail
    rw[hx,show decide ((false,([]:List UInt8)).snd≠[])=false from rfl]
    repeat' first|apply jO|apply jN|apply jT|refine Q1 ?_|refine Q0 ?_|refine Qj ?_|refine QC (h:=?_)|apply jK|refine Q4 rfl ?_|refine QU (h:=?_)|apply jW
    exact Qa (k+1) ⟨by omega,hnx _ hx rfl⟩ aY aF (HSub.nil _)
   ·repeat' first|apply jS|apply jO|apply jN|apply jT|refine Q0 ?_|refine QD (h:=?_)|apply jV|refine Q8 rfl ?_|apply QT|refine QU (h:=?_)|apply jR
    exact Qn rfl (fun a w' st=>⟨st.kp,eX.f (hxk _ hx rfl)⟩)
  | cons x r =>
   rw[show decide ((p,x::r).snd=([]:List UInt8))=false from rfl]
   repeat' first|refine Q1 ?_|refine Q62 (h:=?_)|refine Qc7 (h:=?_)|refine Q1e (h:=?_)|refine QC (h:=?_)|refine Qap (h:=?_)|refine QU (h:=?_)|fail
   rw[hx,show decide ((p,x::r).snd≠([]:List UInt8))=true from rfl]
   repeat' first|refine Q1 ?_|refine Q62 (h:=?_)|refine Qc7 (h:=?_)|refine Q1e (h:=?_)|fail
   rw[hx]
   repeat' first|apply jS|apply jO|apply jN|apply jT|refine Q1 ?_|refine Q0 ?_|refine Qj ?_|refine QD (h:=?_)|refine QC (h:=?_)|refine Q4i (h:=?_)|(refine Z9 (h1:=?_) (h2:=?_)<;>intro hc<;>try omega)|apply jV|apply jK|apply jR|refine Q8 rfl ?_|refine Q4 rfl ?_|apply jW|apply QT
   ·exact Qn rfl (fun _ w' st=>⟨st.kp,eX.f (hxk _ hx (by have:x=0:=UInt8.toNat.inj (by simpa using hc);subst this;rfl))⟩)
   ·exact Qa (k+1) ⟨by omega,hnx _ hx (by have:x≠0:=fun e=>hc (by subst e;rfl);simp[gZ,this])⟩ aY aF (HSub.nil _)
 ·repeat' first|apply jS|apply jO|apply jN|apply jT|refine Q1 ?_|refine Q0 ?_|refine Q4h (h:=?_)|(refine Qs (h1:=?_) (h2:=?_)<;>intro hc<;>try omega)|apply jU|apply jE|apply jR|refine Q4 rfl ?_|apply Qe
  refine Qn rfl (fun a w' st=>⟨st.kp,eX.t (Q5c.2 ?_)⟩)
  rintro⟨x,hx,hb⟩
  obtain⟨j,hj,rfl⟩:=List.mem_iff_getElem.1 hx
  have:=hpr j oq
  rw[List.getD,List.getElem?_eq_getElem hj,Option.getD_some,hb]at this
  cases this

theorem ZY (w:World) (v:Value) (a:XM) (ha:IsX w v a) (hl:a.E.length<1000000000):Calls Tryz.prog 26 #[v] w (aP fun v w'=>Kp [] w w'∧eX (RX a) v):=by
 obtain⟨E,rfl,hE⟩:=ha
 by_cases hf:0≤a.R∧a.R≤200∧0≤a.C∧a.C≤200
 ·obtain⟨R,C,xs⟩:=a
  obtain⟨h1,h2,h3,h4⟩:=hf
  dsimp only at *
  obtain⟨r,rfl⟩:=Int.eq_ofNat_of_zero_le h1
  obtain⟨c,rfl⟩:=Int.eq_ofNat_of_zero_le h3
  have hr:r≤200:=by omega
  have hc:c≤200:=by omega
  have hrc:=rcZ hr hc
  have hiff:=Qn6 (E:=xs) hr hc
  refine Q9 [] [] au [] Tryz.func26 rfl mixed (by kernel_rfl) Tryz.ntmps26 Tryz.results26 rfl ⟨by simp,by simp⟩ au ?_
  simp only[toS,Qd,Qt,Qk,Ql,ay,Qg,QA,aC]
  have hR:=WX.rd (c:=⟨Tryz.prog,25,w,[],by simp⟩) hE rfl []
  repeat' first|apply jS|apply jO|apply jN|refine Q3 ?_|refine Q0 ?_|refine Qb ?_|refine QB fun _=>?_|apply jT
  refine Q5 trivial rfl rfl rfl (fun w _ _=>Q5e r c w) fun w v w' _ _ _ hv=>?_
  obtain⟨b',rfl,hb⟩:=hv
  obtain rfl:=hb.2 ⟨h1,h2,h3,h4⟩
  repeat' first|apply jS|apply jO|apply jN|apply jT|refine Q1 ?_|refine Q3 ?_|refine Q0 ?_|refine Qb ?_|refine Q4h (h:=?_)|refine ZK (h:=?_)|refine QC (h:=?_)|refine QV (h:=?_)|(refine Ze (h1:=?_) (h2:=?_)<;>intro hc<;>try omega)|apply jV|apply jK|apply jR|refine Q8 rfl ?_|refine Q4 rfl ?_
  ·exact Qn rfl (fun a w' st=>⟨st.kp,eX.f (fun h=>by have:=(hiff.1 h).1;omega)⟩)
  ·refine Q5 trivial rfl rfl rfl (fun w' hk hs=>Q0g w' E _ _ (hE.mono hk) hl) fun w v w' _ _ _ hv=>?_
   obtain⟨b',rfl,hb⟩:=hv
   repeat' first|apply jN|apply jT|refine Q0 ?_|apply jR
   exact Qn rfl (fun a w' st=>⟨st.kp,b',rfl,hb.trans ⟨fun h=>hiff.2 ⟨by omega,h⟩,fun h=>(hiff.1 h).2⟩⟩)
 ·refine Q9 [] [] au [] Tryz.func26 rfl mixed (by kernel_rfl) Tryz.ntmps26 Tryz.results26 rfl ⟨by simp,by simp⟩ au ?_
  simp only[toS,Qd,Qt,Qk,Ql,ay,Qg,QA,aC]
  repeat' first|apply jS|apply jO|apply jN|refine Q3 ?_|refine Q0 ?_|refine Qb ?_|refine QB fun _=>?_|apply jT
  refine Q5 trivial rfl rfl rfl (fun w _ _=>Q5e a.R a.C w) fun w v w' _ _ _ hv=>?_
  obtain⟨b',rfl,hb⟩:=hv
  cases b' with
  | true=>exact absurd (hb.1 rfl) hf
  | false =>
   repeat' first|apply jS|apply jO|apply jN|apply jT|refine Q1 ?_|refine Q0 ?_|refine QD (h:=?_)|refine QV (h:=?_)|apply jV|refine Q8 rfl ?_|refine QU (h:=?_)|apply jR
   exact Qn rfl (fun a w' st=>⟨st.kp,eX.f (fun h=>hf h.fits)⟩)


theorem Q08 {m:ZM} (h:cO m):m.xm.E.length<1000000000:=by have:=h.le;simp[ZM.xm];omega

theorem Qle (K L:Nat) (w:World) (v u:Value) (m n:ZM) (hm:cO m) (hn:cO n) (hr:m.c=n.r) (hK:K+L≤400000000000) (hx:cZ K m) (hy:cZ L n) (hv:fO w v m) (hu:fO w u n) :
  Calls Tryz.prog 16 #[v,u] w (aP fun v w'=>Kp [] w w'∧Q5m (jH m n) true w v w'):=by
 have jI:=hv.x
 have huX:=hu.x
 obtain⟨E,rfl,hE⟩:=hv
 obtain⟨E',rfl,hE'⟩:=hu
 have hle:=hm.le
 have hle':=hn.le
 have hbr:=hm.r
 have hbc:=hm.c
 have hbc':=hn.c
 have hrc:=rcZ hbr hbc'
 rw[hm.len]at hE
 rw[hn.len]at hE'
 refine Q9 [⟨19,2,[],[]⟩] [] au [] Tryz.func16 rfl mixed (by kernel_rfl) Tryz.ntmps16 Tryz.results16 rfl ⟨by simp,by simp⟩ au ?_
 simp only[toS,Qd,Qt,Qk,Ql,ay,Qg,QA,aC]
 have hR:=WZ.rd (c:=⟨Tryz.prog,104,w,[],by simp⟩) hE rfl []
 have hR':=WZ.rd (c:=⟨Tryz.prog,104,w,[],by simp⟩) hE' rfl []
 repeat' first|apply jS|apply jO|apply jN|refine Q0 ?_|refine Q7 ?_|refine Qc fun _=>?_|refine QB fun _=>?_|apply jT
 rename_i b2 b3 b4
 refine Q5 trivial rfl rfl rfl (fun w hk _=>ZY w _ m.xm (jI.mono hk) (Q08 hm)) fun w v w' _ _ _ hc0=>?_
 obtain⟨b',rfl,hb⟩:=hc0
 obtain rfl:=hb.2 hm.rx
 repeat' first|apply jS|apply jO|apply jN|refine Q0 ?_|refine Q7 ?_|apply jT
 refine Q5 trivial rfl rfl rfl (fun w hk _=>ZY w _ n.xm (huX.mono hk) (Q08 hn)) fun w v w' _ _ _ hc0=>?_
 obtain⟨b',rfl,hb'⟩:=hc0
 obtain rfl:=hb'.2 hn.rx
 repeat' first|apply jS|apply jO|apply jN|apply jT|refine Q1 ?_|refine Q3 ?_|refine Q0 ?_|refine Qb ?_|refine QC (h:=?_)|refine QV (h:=?_)|(refine Ze (h1:=?_) (h2:=?_)<;>intro hc<;>try omega)|apply jK|refine Q4 rfl ?_
 all_goals first
  | (exfalso;omega)
  | skip
 refine Qf (A:=[_,_,_]) (B:=[]) rfl aA rfl rfl rfl (fun w _ _=>Q1u m.r n.c hbr hbc' w) fun w v w' _ _ _ hR=>?_
 obtain⟨N,Eo,hN,rfl,hO⟩:=hR
 obtain⟨Ao,co,rfl⟩:=hO.form
 refine⟨N,hN,?_⟩
 repeat' first|apply jS|apply jO|apply jN|apply jT|refine Q0 ?_|refine Q2 ?_|refine Qc fun _=>?_|refine Q2 ?_|apply jB
 rename_i b8
 refine Qp (ι:=Nat × aj) ⟨fun z=>[(9,nv z.1),(2,.pointer (some ⟨b2,0,none⟩)),(3,.pointer (some ⟨b3,0,none⟩)),(4,.pointer (some ⟨b4,0,none⟩)),(8,.pointer (some ⟨b8,0,none⟩))],
  fun z=>[(b8,.cells #[nv m.r,nv n.c,.slice Ao (m.r*n.c) co] 26),(b4,.cells #[iv 0,iv 0,.slice none 0 0] 26),(b3,.cells #[nv n.r,nv n.c,E'] 26),(b2,.cells #[nv m.r,nv m.c,E] 26)]++(z.2++[]),
  fun z=>z.1≤m.r∧aG z.2 (.slice Ao (m.r*n.c) co) (m.r*n.c) (muE m n (List.range z.1)),fun z=>m.r-z.1⟩ (0,N) ⟨by omega,by rw[show List.range 0=[] from rfl,Qcx];exact hO⟩ aF Qy (fun z hz=>?_)
 clear hO
 obtain⟨i,N⟩:=z
 obtain⟨hi,hO⟩:=hz
 dsimp only at hi hO ⊢
 by_cases hii:i<m.r
 ·have q1:i*m.c≤40000:=Vr (show i≤200 by omega) hbc
  have q2:i*n.c≤40000:=Vr (show i≤200 by omega) hbc'
  repeat' first|apply jS|apply jO|apply jN|apply jT|refine Q1 ?_|refine Q3 ?_|refine Q0 ?_|refine Qb ?_|(refine Qs (h1:=?_) (h2:=?_)<;>intro hc<;>try omega)|apply jK|refine Q8 rfl ?_|apply jB
  refine Qp (ι:=Nat × aj) ⟨fun z=>[(10,nv z.1),(9,nv i),(2,.pointer (some ⟨b2,0,none⟩)),(3,.pointer (some ⟨b3,0,none⟩)),(4,.pointer (some ⟨b4,0,none⟩)),(8,.pointer (some ⟨b8,0,none⟩))],
   fun z=>[(b8,.cells #[nv m.r,nv n.c,.slice Ao (m.r*n.c) co] 26),(b4,.cells #[iv 0,iv 0,.slice none 0 0] 26),(b3,.cells #[nv n.r,nv n.c,E'] 26),(b2,.cells #[nv m.r,nv m.c,E] 26)]++(z.2++[]),
   fun z=>z.1≤m.c∧aG z.2 (.slice Ao (m.r*n.c) co) (m.r*n.c) (jl m n (List.range i) i (List.range z.1) 0 0),fun z=>m.c-z.1⟩ (0,N) ⟨by omega,by rw[show List.range 0=[] from rfl,Q9c];exact hO⟩ aF (HSub.refl _) (fun z hz=>?_)
  clear hO
  obtain⟨k,N⟩:=z
  obtain⟨hk,hO⟩:=hz
  dsimp only at hk hO ⊢
  by_cases hkk:k<m.c
  ·have hik:=Q0z hii hkk
   have q3:k*n.c≤40000:=Vr (show k≤200 by omega) hbc'
   repeat' first|apply jS|apply jO|apply jN|apply jT|refine Q1 ?_|refine Q3 ?_|refine Q0 ?_|refine Qb ?_|refine Zn (h:=?_)|refine XD (h:=?_)|refine Zf (h:=?_)|refine ZK (h:=?_)|refine Q2 ?_|(refine Qs (h1:=?_) (h2:=?_)<;>intro hc<;>try omega)|refine Qc fun _=>?_|refine Q2 ?_|apply jK|refine Q8 rfl ?_|apply jB
   rename_i b11
   refine Qp (ι:=Nat × aj) ⟨fun z=>[(12,nv z.1),(11,.pointer (some ⟨b11,0,none⟩)),(10,nv k),(9,nv i),(2,.pointer (some ⟨b2,0,none⟩)),(3,.pointer (some ⟨b3,0,none⟩)),(4,.pointer (some ⟨b4,0,none⟩)),(8,.pointer (some ⟨b8,0,none⟩))],
    fun z=>[(b11,.cells (wc (m.at i k)) 35),(b8,.cells #[nv m.r,nv n.c,.slice Ao (m.r*n.c) co] 26),(b4,.cells #[iv 0,iv 0,.slice none 0 0] 26),(b3,.cells #[nv n.r,nv n.c,E'] 26),(b2,.cells #[nv m.r,nv m.c,E] 26)]++(z.2++[]),
    fun z=>z.1≤n.c∧(m.at i k=0→z.1=0)∧aG z.2 (.slice Ao (m.r*n.c) co) (m.r*n.c) (jl m n (List.range i) i (List.range k) k z.1),fun z=>n.c-z.1⟩ (0,N) ⟨by omega,fun _=>rfl,by rw[Qor m n (List.range i) i (List.range k) k 0];exact hO⟩ aF (HSub.refl _) (fun z hz=>?_)
   clear hO
   obtain⟨j,N⟩:=z
   obtain⟨hj,hjz,hO⟩:=hz
   dsimp only at hj hjz hO ⊢
   by_cases hjj:j<n.c
   ·have hkj:=Q0z (show k<n.r by omega) hjj
    have hij:=Q0z hii hjj
    repeat' first|apply jS|apply jO|apply jN|refine Q1 ?_|refine Q3 ?_|refine Qb ?_|refine QD (h:=?_)|refine Qap (h:=?_)|(refine Qs (h1:=?_) (h2:=?_)<;>intro hc<;>try omega)|apply jT
    by_cases hz:m.at i k=0
    ·rw[show decide (bD (m.at i k).natAbs≠[])=false from decide_eq_false (fun h=>h (YK.2 oq))]
     repeat' first|apply jO|apply jN|apply jT|refine Q1 ?_|refine Q0 ?_|refine Qj ?_|apply jU|apply jE|refine Q4 rfl ?_|apply jW|apply Qe
     have hj0:j=0:=hjz hz
     subst hj0
     rw[Qor m n (List.range i) i (List.range k) k 0,Qcw hz, ← List.range_succ]at hO
     exact Qa (k+1,N) ⟨by dsimp only;omega,hO⟩ aY aF (HSub.skip (HSub.refl _))
    ·rw[show decide (bD (m.at i k).natAbs≠[])=true from decide_eq_true (fun h=>hz (by have:=YK.1 h;omega))]
     repeat' first|apply jS|apply jO|apply jN|apply jT|refine Q1 ?_|refine Q3 ?_|refine Qb ?_|refine Zn (h:=?_)|refine XD (h:=?_)|refine Zf (h:=?_)|refine ZK (h:=?_)|refine Q2 ?_|refine Qap (h:=?_)|refine Qc fun _=>?_|refine Q2 ?_|apply jK|refine Q8 rfl ?_|apply jB
     rename_i b13
     by_cases hz2:n.at k j=0
     ·rw[show decide (bD (n.e.getD (k*n.c+j) 0).natAbs≠[])=false from decide_eq_false (fun h=>h (YK.2 (by have:n.e.getD (k*n.c+j) 0=0:=hz2;omega)))]
      repeat' first|apply jO|apply jN|apply jT|refine Q1 ?_|refine Q0 ?_|refine Qj ?_|apply jK|refine Q4 rfl ?_|apply jW
      rw[Qcu (by rw[hz2,Int.mul_zero])]at hO
      exact Qa (j+1,N) ⟨by dsimp only;omega,fun h=>absurd h hz,hO⟩ aY aF (HSub.skip (HSub.refl _))
     ·rw[show decide (bD (n.e.getD (k*n.c+j) 0).natAbs≠[])=true from decide_eq_true (fun h=>hz2 (by have:=YK.1 h;show n.e.getD (k*n.c+j) 0=0;omega))]
      repeat' first|apply jS|apply jO|apply jD|apply jN|apply jT|refine Q1 ?_|refine Q3 ?_|refine Q0 ?_|refine Qb ?_|refine Q7 ?_|refine Zn (h:=?_)|refine XD (h:=?_)|refine Zf (h:=?_)|refine ZK (h:=?_)|refine Q8 rfl ?_
      refine Q5 aA rfl rfl rfl (fun w _ _=>Q9z w _ _ (m.at i k) (n.at k j) (K+L) (Qi (Y6 (hx.at i k) oq)) (Qi (Y6 (hy.at k j) oq)) oq) fun w v w' _ _ _ hR=>?_
      subst hR
      skip
      have es:(jl m n (List.range i) i (List.range k) k j).getD (i*n.c+j) 0=muF m n (List.range i) i (List.range k) k j i j:=Q2j hii hjj
      refine Q5 aA rfl rfl rfl (fun w _ _=>Q5h w _ _ ((jl m n (List.range i) i (List.range k) k j).getD (i*n.c+j) 0) (m.at i k*n.at k j) (K+L+2) (Qi (by rw[es];exact Qmd hbc hx hy (by simp;omega) (by simp;omega))) (Qi (Y6 (X2 (hx.at i k) (hy.at k j)) oq)) oq) fun w v w' _ _ _ hR=>?_
      subst hR
      repeat' first|refine Zn (h:=?_)|fail
      refine Q27 (A:=[_,_,_,_,_,_]) hO rfl rfl aA rfl rfl hij (fun N' aU=>?_)
      rw[show (jl m n (List.range i) i (List.range k) k j).getD (i*n.c+j) 0=enz n.c (jl m n (List.range i) i (List.range k) k j) i j from rfl,Qh9 hii hjj]at aU
      repeat' first|apply jO|apply jN|apply jT|refine Q1 ?_|refine Q0 ?_|refine Qj ?_|apply jW
      exact Qa (j+1,N') ⟨by dsimp only;omega,fun h=>absurd h hz,aU⟩ aY aF (HSub.skip (HSub.refl _))
   ·repeat' first|apply jS|apply jO|apply jN|apply jT|refine Q1 ?_|refine Q3 ?_|refine Q0 ?_|refine Qb ?_|refine Qj ?_|refine QC (h:=?_)|(refine Qs (h1:=?_) (h2:=?_)<;>intro hc<;>try omega)|apply jU|apply jE|refine Q4 rfl ?_|apply Qe|refine QU (h:=?_)|apply jW
    obtain rfl:j=n.c:=by omega
    rw[Qcv, ← List.range_succ]at hO
    exact Qa (k+1,N) ⟨by dsimp only;omega,hO⟩ aY aF (HSub.skip (HSub.refl _))
  ·repeat' first|apply jS|apply jO|apply jN|apply jT|refine Q1 ?_|refine Q3 ?_|refine Q0 ?_|refine Qb ?_|refine Qj ?_|(refine Qs (h1:=?_) (h2:=?_)<;>intro hc<;>try omega)|apply jU|apply jE|refine Q4 rfl ?_|apply jW|apply Qe
   obtain rfl:k=m.c:=by omega
   rw[Qha, ← List.range_succ]at hO
   exact Qa (i+1,N) ⟨by dsimp only;omega,hO⟩ aY aF (HSub.refl _)
 ·repeat' first|apply jS|apply jO|apply jN|apply jT|refine Q1 ?_|refine Q3 ?_|refine Q0 ?_|refine Qb ?_|refine Q7 ?_|refine Q2 ?_|(refine Qs (h1:=?_) (h2:=?_)<;>intro hc<;>try omega)|refine Q2 ?_|apply jU|apply jE|apply jR|refine Q4 rfl ?_|apply Qe
  obtain rfl:i=m.r:=by omega
  rw[Qhb]at hO
  exact X8 1 rfl rfl rfl rfl (fun a w' st=>⟨st.kp,N,_,rfl,st.aS rfl Q6,fZ.mk' hO⟩)


theorem Q88 (n:Nat) (hn:n≤200) (w:World):Calls Tryz.prog 35 #[nv n] w (aP fun v w'=>Kp [] w w'∧Q36 (gy n) w v w'):=by
 have hnn:=rcZ hn hn
 refine Q9 [⟨5,2,[],[]⟩] [] au [] Tryz.func35 rfl mixed (by kernel_rfl) Tryz.ntmps35 Tryz.results35 rfl ⟨by simp,by simp⟩ au ?_
 simp only[toS,Qd,Qt,Qk,Ql,ay,Qg,QA,aC]
 repeat' first|apply jS|apply jO|apply jN|refine Q1 ?_|refine Qc fun _=>?_|apply jT
 rename_i b2
 refine Qf (A:=[_]) (B:=[]) rfl trivial rfl rfl rfl (fun w _ _=>Q1u n n hn hn w) fun w v w' _ _ _ hR=>?_
 obtain⟨N,Eo,hN,rfl,hO⟩:=hR
 obtain⟨Ao,co,rfl⟩:=hO.form
 refine⟨N,hN,?_⟩
 repeat' first|apply jS|apply jO|apply jN|apply jT|refine Q0 ?_|refine Q2 ?_|refine Qc fun _=>?_|refine Q2 ?_|apply jB
 rename_i b3
 refine Qp (ι:=Nat × aj) ⟨fun z=>[(4,nv z.1),(0,nv n),(3,.pointer (some ⟨b3,0,none⟩)),(2,.pointer (some ⟨b2,0,none⟩))],
  fun z=>[(b3,.cells #[nv n,nv n,.slice Ao (n*n) co] 26),(b2,.cells #[iv 0,iv 0,.slice none 0 0] 26)]++(z.2++[]),
  fun z=>z.1≤n∧aG z.2 (.slice Ao (n*n) co) (n*n) (oneS n z.1),fun z=>n-z.1⟩ (0,N) ⟨by omega,by rw[Q96];exact hO⟩ aF Qy (fun k hk=>?_)
 obtain⟨k,N⟩:=k
 obtain⟨hkn,hO⟩:=hk
 dsimp only at hkn hO ⊢
 have hkk:k*n≤40000:=Vr (show k≤200 by omega) hn
 by_cases hlt:k<n
 ·have hi:=Q0z hlt hlt
  repeat' first|apply jS|apply jO|apply jD|apply jN|apply jT|refine Q1 ?_|refine Q3 ?_|refine Qb ?_|refine Zf (h:=?_)|refine ZK (h:=?_)|(refine Qs (h1:=?_) (h2:=?_)<;>intro hc<;>try omega)|apply jK|refine Q8 rfl ?_|apply jB
  refine Q5 aA rfl rfl rfl (fun w _ _=>XF w 1 oq oq) fun w v w' _ _ _ hR=>?_
  subst hR
  repeat' first|refine Zn (h:=?_)|fail
  refine Q27 (A:=[_,_]) hO rfl rfl ⟨rfl,rfl⟩ rfl rfl hi (fun N' aU=>?_)
  rw[Qco hlt]at aU
  repeat' first|apply jO|apply jN|apply jT|refine Q1 ?_|refine Q0 ?_|refine Qj ?_|apply jW
  exact Qa (k+1,N') ⟨by dsimp only;omega,aU⟩ aY aF Qy
 ·repeat' first|apply jS|apply jO|apply jN|apply jT|refine Q1 ?_|refine Q3 ?_|refine Qb ?_|refine Q7 ?_|refine Q2 ?_|(refine Qs (h1:=?_) (h2:=?_)<;>intro hc<;>try omega)|refine Q2 ?_|apply jU|apply jE|apply jR|refine Q4 rfl ?_|apply Qe
  obtain rfl:k=n:=by omega
  rw[Qcp]at hO
  exact QQ 1 rfl rfl rfl (fun a w' st=>⟨st.kp,N,st.aS rfl Q6,fZ.mk' hO⟩)

theorem Qpp (w:World) (v:Value) (m:ZM) (i j:Int) (hm:cO m) (hv:fO w v m):Calls Tryz.prog 53 #[v,iv i,iv j] w (aP fun v w'=>Kp [] w w'∧v=Wv (atZ m i j)):=by
 have jI:=hv.x
 obtain⟨E,rfl,hE⟩:=hv
 have hl:=hm.len
 have hle:=hm.le
 by_cases h:0≤i∧i<m.r∧0≤j∧j<m.c
 ·obtain⟨i,rfl⟩:=Int.eq_ofNat_of_zero_le h.1
  obtain⟨j,rfl⟩:=Int.eq_ofNat_of_zero_le h.2.2.1
  have hi:i<m.r:=by omega
  have hj:j<m.c:=by omega
  have hlt:=Q0z hi hj
  have e:atZ m i j=m.e.getD (i*m.c+j) 0:=if_pos h
  rw[e]
  refine Q9 [] [] au [] Tryz.func53 rfl mixed (by kernel_rfl) Tryz.ntmps53 Tryz.results53 rfl ⟨by simp,by simp⟩ au ?_
  simp only[toS,Qd,Qt,Qk,Ql,ay,Qg,QA,aC]
  repeat' first|apply jS|apply jO|apply jN|refine Q7 ?_|refine Qc fun _=>?_|refine QB fun _=>?_|apply jT
  refine Q5 trivial rfl rfl rfl (fun w hk _=>ZY w _ m.xm (jI.mono hk) (Q08 hm)) fun w v w' _ _ _ hR=>?_
  obtain⟨b,rfl,hb⟩:=hR
  obtain rfl:=hb.2 hm.rx
  have hic:i*m.c≤40000:=by omega
  repeat' first|apply jS|apply jO|apply jN|apply jT|refine Q1 ?_|refine Q3 ?_|refine Q0 ?_|refine Qb ?_|refine Zn (h:=?_)|refine XD (h:=?_)|refine Zf (h:=?_)|refine ZK (h:=?_)|refine QC (h:=?_)|refine QV (h:=?_)|refine Q2 ?_|(refine Qs (h1:=?_) (h2:=?_)<;>intro hc<;>try omega)|(refine Yx (h1:=?_) (h2:=?_)<;>intro hc<;>try omega)|refine Q2 ?_|apply jK|apply jR|refine Q4 rfl ?_
  exact QQ 0 rfl rfl rfl (fun a w st=>⟨st.kp,rfl⟩)
 ·have e:atZ m i j=0:=if_neg h
  rw[e]
  refine Q9 [] [] au [] Tryz.func53 rfl mixed (by kernel_rfl) Tryz.ntmps53 Tryz.results53 rfl ⟨by simp,by simp⟩ au ?_
  simp only[toS,Qd,Qt,Qk,Ql,ay,Qg,QA,aC]
  repeat' first|apply jS|apply jO|apply jN|refine Q7 ?_|refine Qc fun _=>?_|refine QB fun _=>?_|apply jT
  refine Q5 trivial rfl rfl rfl (fun w hk _=>ZY w _ m.xm (jI.mono hk) (Q08 hm)) fun w v w' _ _ _ hR=>?_
  obtain⟨b,rfl,hb⟩:=hR
  obtain rfl:=hb.2 hm.rx
  repeat' first|apply jS|apply jO|apply jN|apply jT|refine Q1 ?_|refine Q3 ?_|refine Q0 ?_|refine Qb ?_|refine QD (h:=?_)|refine QC (h:=?_)|refine QV (h:=?_)|refine Q2 ?_|(refine Qs (h1:=?_) (h2:=?_)<;>intro hc<;>try omega)|(refine Yx (h1:=?_) (h2:=?_)<;>intro hc<;>try omega)|refine Zh (h:=?_)|refine Q2 ?_|apply jV|refine Q8 rfl ?_|refine QU (h:=?_)|apply jR
  all_goals first
   | (exfalso;omega)
   | exact QQ 0 rfl rfl rfl (fun a w st=>⟨st.kp,by rw[Wz0];rfl⟩)

theorem Qiq (w:World) (v:Value) (xss:List (List Int)) (hv:fC w v xss) (hr:xss.length≤200) (hcc:jw xss xss.length≤200) (hI:∀ i j,I64 ((xss.getD i []).getD j 0)) :
  Calls Tryz.prog 45 #[v] w (aP fun v w'=>Kp [] w w'∧Q36 (ofZ xss) w v w'):=by
 obtain⟨ss,hss,hrow⟩:=hv
 have hrc:=rcZ hr hcc
 have hlen:∀ i,i<xss.length→(xss.getD i []).length≤200:=fun i hi=>V0 (Qh4 xss hi) hcc
 have hsl:ss.length=xss.length:=by have:=hss.1;omega
 refine Q9 [⟨13,2,[],[]⟩] [] au [] Tryz.func45 rfl mixed (by kernel_rfl) Tryz.ntmps45 Tryz.results45 rfl ⟨by simp,by simp⟩ au ?_
 simp only[toS,Qd,Qt,Qk,Ql,ay,Qg,QA,aC]
 have hR:Rd ⟨Tryz.prog,57,w,[],by simp⟩ [] 1 v xss.length ss:=hss.rd rfl []
 repeat' first|apply jS|apply jO|apply jN|apply jT|refine Q0 ?_|refine Qc fun _=>?_|apply jB
 rename_i b2
 refine Qp (ι:=Nat) ⟨fun k=>[(4,nv k),(3,nv (jw xss k)),(0,v),(2,.pointer (some ⟨b2,0,none⟩))],fun _=>[(b2,.cells #[iv 0,iv 0,.slice none 0 0] 26)],
  fun k=>k≤xss.length,fun k=>xss.length-k⟩ 0 aY aF Qy (fun k hk=>?_)
 dsimp only at hk ⊢
 repeat' first|apply jS|refine Q1 ?_|apply jO
 refine XP rfl rfl rfl hR ?_
 by_cases hkk:k<xss.length
 ·have hwi:=hrow k hkk
  have hl4:=hlen k hkk
  repeat' first|apply jS|apply jO|apply jN|apply jT|refine Q1 ?_|(refine Qs (h1:=?_) (h2:=?_)<;>intro hc<;>try omega)|apply jK|refine Q8 rfl ?_|apply jB
  refine Yw rfl rfl rfl rfl hR hkk ?_
  skip
  refine Q1d rfl rfl rfl rfl hR (HSub.nil _) (Xj (d:=iv 0) oq) ?_
  repeat' first|apply jO|apply jN|apply jT|refine Q1 ?_|refine Q0 ?_|refine Qgk (h:=?_)|refine Qj ?_|refine Qrc (h:=?_)|apply jW
  refine Qa (k+1) aY aY (by dsimp only[jw];unfold nv;rw[← Qru];exact aF) Qy
 ·have:k=xss.length:=by omega
  subst this
  repeat' first|apply jS|apply jO|apply jN|apply jT|refine Q1 ?_|(refine Qs (h1:=?_) (h2:=?_)<;>intro hc<;>try omega)|apply jU|apply jE|refine Q4 rfl ?_|apply Qe
  refine XP rfl rfl rfl hR ?_
  repeat' first|refine Q1 ?_|fail
  refine Qf (A:=[_]) (B:=[]) rfl trivial rfl rfl rfl (fun w hk _=>Q1u xss.length _ hr hcc w) fun w v' w' _ _ _ hR'=>?_
  obtain⟨N,Eo,hN,rfl,hO⟩:=hR'
  obtain⟨Ao,co,rfl⟩:=hO.form
  refine⟨N,hN,?_⟩
  repeat' first|apply jS|apply jO|apply jN|apply jT|refine Q0 ?_|refine Q2 ?_|refine Qc fun _=>?_|refine Q2 ?_|apply jB
  rename_i b5
  refine Qp (ι:=Nat × aj) ⟨fun z=>[(6,nv z.1),(5,.pointer (some ⟨b5,0,none⟩)),(3,nv (jw xss xss.length)),(0,v),(2,.pointer (some ⟨b2,0,none⟩))],
   fun z=>[(b5,.cells #[nv xss.length,nv (jw xss xss.length),.slice Ao (xss.length*jw xss xss.length) co] 26),(b2,.cells #[iv 0,iv 0,.slice none 0 0] 26)]++(z.2++[]),
   fun z=>z.1≤xss.length∧aG z.2 (.slice Ao (xss.length*jw xss xss.length) co) (xss.length*jw xss xss.length) (gu xss.length (jw xss xss.length) (ofS xss z.1 0)),fun z=>xss.length-z.1⟩ (0,N) ⟨by dsimp only;omega,by rw[Qkm];exact hO⟩ aF Qy (fun z hz=>?_)
  clear hO
  obtain⟨i,N⟩:=z
  obtain⟨hi,hO⟩:=hz
  dsimp only at hi hO ⊢
  by_cases hii:i<xss.length
  ·have hwi:=hrow i hii
   have hl4:=hlen i hii
   have hlc:=Qh4 xss hii
   repeat' first|apply jS|apply jO|apply jN|apply jT|refine Q1 ?_|refine Q3 ?_|refine Q0 ?_|refine Qb ?_|(refine Qs (h1:=?_) (h2:=?_)<;>intro hc<;>try omega)|apply jK|refine Q8 rfl ?_|apply jB
   refine Qp (ι:=Nat × aj) ⟨fun z=>[(7,nv z.1),(6,nv i),(5,.pointer (some ⟨b5,0,none⟩)),(3,nv (jw xss xss.length)),(0,v),(2,.pointer (some ⟨b2,0,none⟩))],
    fun z=>[(b5,.cells #[nv xss.length,nv (jw xss xss.length),.slice Ao (xss.length*jw xss xss.length) co] 26),(b2,.cells #[iv 0,iv 0,.slice none 0 0] 26)]++(z.2++[]),
    fun z=>z.1≤(xss.getD i []).length∧aG z.2 (.slice Ao (xss.length*jw xss xss.length) co) (xss.length*jw xss xss.length) (gu xss.length (jw xss xss.length) (ofS xss i z.1)),fun z=>(xss.getD i []).length-z.1⟩ (0,N) ⟨by dsimp only;omega,hO⟩ aF Qy (fun z hz=>?_)
   clear hO
   obtain⟨j,N⟩:=z
   obtain⟨hj,hO⟩:=hz
   dsimp only at hj hO ⊢
   repeat' first|apply jS|refine Q1 ?_|apply jO
   refine Yw rfl rfl rfl rfl hR hii ?_
   skip
   refine Q1d rfl rfl rfl rfl hR (HSub.nil _) (Xj (d:=iv 0) oq) ?_
   by_cases hjj:j<(xss.getD i []).length
   ·have hjc:j<jw xss xss.length:=by omega
    have hidx:=Qs7 hii hjc
    have hb1:i*jw xss xss.length≤40000:=Vr (show i≤200 by omega) hcc
    have hI2:=hI i j
    repeat' first|apply jS|apply jD|apply jN|apply jT|refine Q1 ?_|refine Q3 ?_|refine Qb ?_|refine Qgk (h:=?_)|refine Zf (h:=?_)|refine ZK (h:=?_)|(refine Qs (h1:=?_) (h2:=?_)<;>intro hc<;>try omega)|apply jK|refine Q8 rfl ?_|apply jB
    refine Yw rfl rfl rfl rfl hR hii ?_
    skip
    refine Q1d rfl rfl rfl rfl hR (HSub.nil _) (Xj (d:=iv 0) oq) ?_
    repeat' first|refine Q1 ?_|refine Q8y (h:=?_)|refine Qgl (h:=?_)|fail
    refine Q5 aA rfl rfl rfl (fun w _ _=>XF w ((xss.getD i []).getD j 0) hI2.1 hI2.2) fun w v w' _ _ _ hR=>?_
    subst hR
    repeat' first|refine Zn (h:=?_)|fail
    refine Q27 (A:=[_,_]) (u:=ofE xss i j) hO rfl rfl aA rfl rfl hidx (fun N' aU=>?_)
    rw[Qol hjc]at aU
    repeat' first|apply jO|apply jN|apply jT|refine Q1 ?_|refine Q0 ?_|refine Qj ?_|apply jW
    exact Qa (j+1,N') ⟨by dsimp only;omega,aU⟩ aY aF Qy
   ·rw[Qom (show (xss.getD i []).length≤j by omega)]at hO
    repeat' first|apply jO|apply jN|apply jT|refine Q1 ?_|refine Q0 ?_|refine Qgk (h:=?_)|refine Qj ?_|(refine Qs (h1:=?_) (h2:=?_)<;>intro hc<;>try omega)|apply jU|apply jE|refine Q4 rfl ?_|apply jW|apply Qe
    exact Qa (i+1,N) ⟨by dsimp only;omega,hO⟩ aY aF Qy
  ·rw[Qon (show xss.length≤i by omega)]at hO
   repeat' first|apply jS|apply jO|apply jN|apply jT|refine Q1 ?_|refine Q3 ?_|refine Qb ?_|refine Q7 ?_|refine Q2 ?_|(refine Qs (h1:=?_) (h2:=?_)<;>intro hc<;>try omega)|refine Q2 ?_|apply jU|apply jE|apply jR|refine Q4 rfl ?_|apply Qe
   exact QQ 1 rfl rfl rfl (fun a w' st=>⟨st.kp,N,st.aS rfl Q6,fZ.mk' hO⟩)

end Go.Proofs.YtljmapfihjkafaaGreatDoor

