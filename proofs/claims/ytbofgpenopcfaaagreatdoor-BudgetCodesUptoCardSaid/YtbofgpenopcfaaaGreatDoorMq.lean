import Derived.Test.YtbofgpenopcfaaaGreatDoorMp
import Derived.Test.YtbofgpenopcfaaaGreatDoorMj
import Derived.Test.YtbofgpenopcfaaaGreatDoorMn
import Derived.Test.YtbofgpenopcfaaaGreatDoorMh
import Derived.Test.YtbofgpenopcfaaaGreatDoorRows
import Derived.WalkKit
import Derived.ProofKit
import Derived.OpenShut
import Derived.ShutString
import Derived.ChangeOld
import Derived.Below
import Derived.Lib.SmallJoins
import Derived.SizedLaws
import Derived.Test.YtbofgpenopcfaaaGreatDoorMm
import Derived.Shelf.Vars
import Derived.Test.YtbofgpenopcfaaaGreatDoorMo
set_option maxHeartbeats 16000000
namespace Go.Proofs.YtbofgpenopcfaaaGreatDoor
open Go Go.RowKit
set_option linter.unusedSimpArgs false
set_option linter.unusedVariables false
set_option linter.unusedSectionVars false

theorem Qd0 (K:Nat) (w:World) (b:Nat) (J:JW) (m n t:Nat) (s:Int) (S:Sm) (hJ:jm J m n S) (hD:Dm m n S) (hs:aG (bJ b J m n t s) w) (hm:m≤200) (hn:n≤200) (bD:t<m) (htn:t<n) (hK:K≤4000000000) (hb:Ok K S) (hp:gE S.d t t≠0) :
  Calls Tryz.prog 66 #[.pointer (some ⟨b,0,none⟩)] w (aQ fun v w'=>JwR b J m n t s t s ((fB m n t S).getD S) w w'∧v=.bool (fB m n t S).isSome):=by
 have hM:=QK hs
 refine Qa [] (keys (bJ b J m n t s)) hM (bJ b J m n t s) Tryz.func66 rfl mixed (by kernel_rfl) Tryz.ntmps66 Tryz.results66 rfl hs (fun p hp=>List.mem_map.2 ⟨p,hp,rfl⟩) ?_
 simp only[toS,Qe,Qx,Qo,Qr,ay,Ql,Qy,aB]
 unfold bJ iq
 repeat' first|apply jS|apply jO|apply jN|apply jT|refine Q1 ?_|refine Q2 ?_|refine Q0 ?_|refine Q7 ?_|refine Qd ?_|refine Q3 ?_|apply jB
 refine Qn (ι:=Nat) ⟨fun z=>[(4,nv z),(3,nv t),(0,.pointer (some ⟨b,0,none⟩))],fun _=>bJ b J m n t s,
  fun z=>t+1≤z∧z≤m∧ji S t m=(List.range' z (m-z)).find? fun i=>decide (gE S.d i t≠0),fun z=>m-z⟩ (t+1) ⟨by omega,by omega,rfl⟩ aC (HSub.refl _) (fun i hi=>?_)
 obtain⟨hti,him,hf⟩:=hi
 dsimp only at hti him hf ⊢
 unfold bJ iq
 by_cases hlt:i<m
 ·rw[QS hlt,List.find?_cons]at hf
  repeat' first|apply jS|apply jO|apply jN|apply jT|refine Q1 ?_|refine Q2 ?_|refine Q7 ?_|refine Q3 ?_|(refine Qg (h1:=?_) (h2:=?_)<;>intro hc<;>try omega)|apply jK|refine Q5 rfl ?_|apply jB
  refine Q9 au rfl aF rfl (fun w _ hs=>YO w b J m n t s S i t hJ hs hlt htn hm hn) fun w v w' _ _ _ hR=>?_
  subst hR
  skip
  refine Q1r Tryz.underlying75 rfl (show T1 Tryz.prog 9 from inferInstance) rfl aF rfl rfl ?_
  repeat' first|apply jN|refine Ya (h:=?_)|apply jT
  rw[hmag]
  by_cases hz:gE S.d i t=0
  ·rw[show decide (gE S.d i t≠0)=false from decide_eq_false (fun h=>h hz)]at hf ⊢
   repeat' first|apply jO|apply jN|apply jT|refine Q1 ?_|refine Q0 ?_|refine Qd ?_|apply jK|refine Q4 rfl ?_|apply jW
   exact Q8 (i+1) ⟨by first|omega|(dsimp only;omega),by first|omega|(dsimp only;omega),hf⟩ gY aC (HSub.refl _)
  ·rw[show decide (gE S.d i t≠0)=true from decide_eq_true hz]at hf ⊢
   have hf:ji S t m=some i:=hf
   have hcl:fB m n t S=some (S.rows i t (aT (-(gE S.d i t / gE S.d t t)))):=by unfold fB;rw[hf]
   rw[hcl]
   repeat' first|apply jS|apply jO|refine Q1 ?_|refine Q5 rfl ?_
   refine Q9 au rfl aF rfl (fun w _ hs=>YO w b J m n t s S i t hJ hs hlt htn hm hn) fun w v w' _ _ _ hR=>?_
   subst hR
   skip
   refine Q9 au rfl aF rfl (fun w _ hs=>Q9m K w b J m n t s S (gE S.d i t) hJ hs hm hn bD htn oq hb.d (QT hb.d _ _) hp) fun w v w' _ _ _ hR=>?_
   subst hR
   skip
   refine XO (A:=[]) (R:=fun _=>True) rfl au rfl aF rfl (fun w hs=>(Q73 K K w b J m n t s S i t (-(gE S.d i t / gE S.d t t)) hJ hD hs hlt bD oq hm hn oq hb (Ys (QT hb.d _ _))).mono fun e w' he=>by
     cases e with
     | panicked _=>exact he.elim
     | outgrown=>exact he.elim
     | returned v=>exact⟨he,trivial⟩) (fun v J' hkJ hJ' hF _=>?_)
   repeat' first|apply jS|apply jO|apply jN|apply jT|refine Q0 ?_|apply jV|apply jR|apply Qz
   exact Qj rfl (fun a w' st=>⟨⟨st.kp,J',hkJ,fun p hp=>st.hs.blk p hp,hJ',hF⟩,rfl⟩)
 ·rw[show m-i=0 by omega]at hf
  have hfr:ji S t m=none:=hf
  clear hf
  repeat' first|apply jS|apply jO|apply jN|apply jT|refine Q1 ?_|refine Q2 ?_|refine Q0 ?_|refine Q7 ?_|refine Qd ?_|refine Q3 ?_|(refine Qg (h1:=?_) (h2:=?_)<;>intro hc<;>try omega)|apply jU|apply jE|refine Q4 rfl ?_|apply jB|apply Qc
  refine Qn (ι:=Nat) ⟨fun z=>[(5,nv z),(3,nv t),(0,.pointer (some ⟨b,0,none⟩))],fun _=>bJ b J m n t s,
   fun z=>t+1≤z∧z≤n∧jy S t n=(List.range' z (n-z)).find? fun i=>decide (gE S.d t i≠0),fun z=>n-z⟩ (t+1) ⟨by omega,by omega,rfl⟩ aC (HSub.refl _) (fun i hi=>?_)
  obtain⟨hti,him,hf⟩:=hi
  dsimp only at hti him hf ⊢
  unfold bJ iq
  by_cases hlt:i<n
  ·rw[QS hlt,List.find?_cons]at hf
   repeat' first|apply jS|apply jO|apply jN|apply jT|refine Q1 ?_|refine Q2 ?_|refine Q7 ?_|refine Q3 ?_|(refine Qg (h1:=?_) (h2:=?_)<;>intro hc<;>try omega)|apply jK|refine Q5 rfl ?_|apply jB
   refine Q9 au rfl aF rfl (fun w _ hs=>YO w b J m n t s S t i hJ hs bD hlt hm hn) fun w v w' _ _ _ hR=>?_
   subst hR
   skip
   refine Q1r Tryz.underlying75 rfl (show T1 Tryz.prog 9 from inferInstance) rfl aF rfl rfl ?_
   repeat' first|apply jN|refine Ya (h:=?_)|apply jT
   rw[hmag]
   by_cases hz:gE S.d t i=0
   ·rw[show decide (gE S.d t i≠0)=false from decide_eq_false (fun h=>h hz)]at hf ⊢
    repeat' first|apply jO|apply jN|apply jT|refine Q1 ?_|refine Q0 ?_|refine Qd ?_|apply jK|refine Q4 rfl ?_|apply jW
    exact Q8 (i+1) ⟨by first|omega|(dsimp only;omega),by first|omega|(dsimp only;omega),hf⟩ gY aC (HSub.refl _)
   ·rw[show decide (gE S.d t i≠0)=true from decide_eq_true hz]at hf ⊢
    have hf:jy S t n=some i:=hf
    have hcl:fB m n t S=some (S.cols i t (aT (-(gE S.d t i / gE S.d t t)))):=by unfold fB;rw[hfr,hf]
    rw[hcl]
    repeat' first|apply jS|apply jO|refine Q1 ?_|refine Q5 rfl ?_
    refine Q9 au rfl aF rfl (fun w _ hs=>YO w b J m n t s S t i hJ hs bD hlt hm hn) fun w v w' _ _ _ hR=>?_
    subst hR
    skip
    refine Q9 au rfl aF rfl (fun w _ hs=>Q9m K w b J m n t s S (gE S.d t i) hJ hs hm hn bD htn oq hb.d (QT hb.d _ _) hp) fun w v w' _ _ _ hR=>?_
    subst hR
    skip
    refine XO (A:=[]) (R:=fun _=>True) rfl au rfl aF rfl (fun w hs=>(Qcz K K w b J m n t s S i t (-(gE S.d t i / gE S.d t t)) hJ hD hs hlt htn oq hm hn oq hb (Ys (QT hb.d _ _))).mono fun e w' he=>by
      cases e with
      | panicked _=>exact he.elim
      | outgrown=>exact he.elim
      | returned v=>exact⟨he,trivial⟩) (fun v J' hkJ hJ' hF _=>?_)
    repeat' first|apply jS|apply jO|apply jN|apply jT|refine Q0 ?_|apply jV|apply jR|apply Qz
    exact Qj rfl (fun a w' st=>⟨⟨st.kp,J',hkJ,fun p hp=>st.hs.blk p hp,hJ',hF⟩,rfl⟩)
  ·rw[show n-i=0 by omega]at hf
   have hfc:jy S t n=none:=hf
   have hcl:fB m n t S=none:=by unfold fB;rw[hfr,hfc]
   rw[hcl]
   repeat' first|apply jS|apply jO|apply jN|apply jT|refine Q1 ?_|refine Q2 ?_|refine Q0 ?_|refine Q7 ?_|refine Q3 ?_|(refine Qg (h1:=?_) (h2:=?_)<;>intro hc<;>try omega)|apply jU|apply jE|apply jR|refine Q4 rfl ?_|apply Qc
   exact Qj rfl (fun a w' st=>⟨JwR.same hJ st.kp (fun p hp=>st.hs.blk p hp),rfl⟩)


theorem Qk7 (K:Nat) (w:World) (b:Nat) (J:JW) (m n t:Nat) (s:Int) (S:Sm) (hJ:jm J m n S) (hD:Dm m n S) (hs:aG (bJ b J m n t s) w) (hm:m≤200) (hn:n≤200) (bD:t<m) (htn:t<n) (hK:K≤4000000000) (hb:Ok K S) (hp:gE S.d t t≠0) :
  Calls Tryz.prog 67 #[.pointer (some ⟨b,0,none⟩)] w (aQ fun v w'=>JwR b J m n t s t s (((Z7 S t m n).map fun i=>S.rows t i (aT 1)).getD S) w w'∧v=.bool (Z7 S t m n).isSome):=by
 have hM:=QK hs
 have hrem:∀ x,gQ x (gE S.d t t)=x % gE S.d t t:=fun x=>if_neg hp
 refine Qa [] (keys (bJ b J m n t s)) hM (bJ b J m n t s) Tryz.func67 rfl mixed (by kernel_rfl) Tryz.ntmps67 Tryz.results67 rfl hs (fun p hp=>List.mem_map.2 ⟨p,hp,rfl⟩) ?_
 simp only[toS,Qe,Qx,Qo,Qr,ay,Ql,Qy,aB]
 unfold bJ iq
 repeat' first|apply jS|apply jO|apply jN|apply jT|refine Q1 ?_|refine Q2 ?_|refine Q0 ?_|refine Q7 ?_|refine Qd ?_|refine Q3 ?_|apply jB
 refine Qn (ι:=Nat) ⟨fun z=>[(4,nv z),(3,nv t),(0,.pointer (some ⟨b,0,none⟩))],fun _=>bJ b J m n t s,
  fun z=>t+1≤z∧z≤m∧Z7 S t m n=(List.range' z (m-z)).find? (Wd S t n),fun z=>m-z⟩ (t+1) ⟨by omega,by omega,rfl⟩ aC (HSub.refl _) (fun i hi=>?_)
 obtain⟨hti,him,hsp⟩:=hi
 dsimp only at hti him hsp ⊢
 unfold bJ iq
 by_cases hlt:i<m
 ·rw[QS hlt,List.find?_cons]at hsp
  repeat' first|apply jS|apply jO|apply jN|apply jT|refine Q1 ?_|refine Q2 ?_|refine Q0 ?_|refine Q7 ?_|refine Qd ?_|refine Q3 ?_|(refine Qg (h1:=?_) (h2:=?_)<;>intro hc<;>try omega)|apply jK|refine Q5 rfl ?_|apply jB
  refine Qn (ι:=Nat) ⟨fun z=>[(5,nv z),(4,nv i),(3,nv t),(0,.pointer (some ⟨b,0,none⟩))],fun _=>bJ b J m n t s,
   fun z=>t+1≤z∧z≤n∧Wd S t n i=(List.range' z (n-z)).any fun j=>decide (gQ (gE S.d i j) (gE S.d t t)≠0),fun z=>n-z⟩ (t+1) ⟨by omega,by omega,rfl⟩ aC (HSub.refl _) (fun j hj=>?_)
  obtain⟨htj,hjn,hbr⟩:=hj
  dsimp only at htj hjn hbr ⊢
  unfold bJ iq
  by_cases hjt:j<n
  ·rw[QS hjt,List.any_cons,hrem]at hbr
   repeat' first|apply jS|apply jO|apply jN|apply jT|refine Q1 ?_|refine Q2 ?_|refine Q7 ?_|refine Q3 ?_|(refine Qg (h1:=?_) (h2:=?_)<;>intro hc<;>try omega)|apply jK|refine Q5 rfl ?_|apply jB
   refine Q9 au rfl aF rfl (fun w _ hs=>YO w b J m n t s S i j hJ hs hlt hjt hm hn) fun w v w' _ _ _ hR=>?_
   subst hR
   repeat' first|refine Q1 ?_|fail
   refine Q9 au rfl aF rfl (fun w _ hs=>YO w b J m n t s S t t hJ hs bD htn hm hn) fun w v w' _ _ _ hR=>?_
   subst hR
   skip
   refine Q9 au rfl aF rfl (fun w _ _=>Q8f w _ _ (gE S.d i j) (gE S.d t t) K (QC (QT hb.d _ _)) (QC (QT hb.d _ _)) oq) fun w v w' _ _ _ hR=>?_
   rw[if_neg hp]at hR
   subst hR
   repeat' first|apply jS|apply jO|apply jN|refine Q1 ?_|refine Q2 ?_|refine Q0 ?_|refine Q7 ?_|refine Qu (h:=?_)|refine Q6 ?_|refine Ya (h:=?_)|refine Qh fun _=>?_|refine Q6 ?_|apply jT
   rw[hmag]
   by_cases hz:gE S.d i j % gE S.d t t=0
   ·rw[show decide (gE S.d i j % gE S.d t t≠0)=false from decide_eq_false (fun h=>h hz)]at hbr ⊢
    repeat' first|apply jO|apply jN|apply jT|refine Q1 ?_|refine Q0 ?_|refine Qd ?_|apply jK|refine Q4 rfl ?_|apply jW
    exact Q8 (j+1) ⟨by first|omega|(dsimp only;omega),by first|omega|(dsimp only;omega),by rw[hbr];exact Bool.false_or _⟩ gY aC (HSub.skip (HSub.skip (HSub.refl _)))
   ·rw[show decide (gE S.d i j % gE S.d t t≠0)=true from decide_eq_true hz]at hbr ⊢
    rw[Bool.true_or]at hbr
    rw[hbr]at hsp
    have hsp:Z7 S t m n=some i:=hsp
    rw[hsp]
    repeat' first|apply jS|apply jO|refine Q1 ?_|refine Q5 rfl ?_
    refine Q9 au rfl aF rfl (fun w _ _=>Yc w 1 oq oq) fun w v w' _ _ _ hR=>?_
    subst hR
    skip
    refine XO (A:=[_,_]) (R:=fun _=>True) rfl au rfl aF rfl (fun w hs=>(Q73 K 1 w b J m n t s S t i 1 hJ hD hs bD hlt oq hm hn oq hb dq).mono fun e w' he=>by
      cases e with
      | panicked _=>exact he.elim
      | outgrown=>exact he.elim
      | returned v=>exact⟨he,trivial⟩) (fun v J' hkJ hJ' hF _=>?_)
    repeat' first|apply jS|apply jO|apply jN|apply jT|refine Q0 ?_|apply jV|apply jR|apply Qz
    exact Qj rfl (fun a w' st=>⟨⟨st.kp,J',hkJ,fun p hp=>st.hs.blk p (Vc _ (Vc _ hp)),hJ',hF⟩,rfl⟩)
  ·rw[show n-j=0 by omega]at hbr
   have hbr:Wd S t n i=false:=hbr
   rw[hbr]at hsp
   repeat' first|apply jS|apply jO|apply jN|apply jT|refine Q1 ?_|refine Q2 ?_|refine Q0 ?_|refine Q7 ?_|refine Qd ?_|refine Q3 ?_|(refine Qg (h1:=?_) (h2:=?_)<;>intro hc<;>try omega)|apply jU|apply jE|refine Q4 rfl ?_|apply jW|apply Qc
   exact Q8 (i+1) ⟨by first|omega|(dsimp only;omega),by first|omega|(dsimp only;omega),hsp⟩ gY aC (HSub.refl _)
 ·rw[show m-i=0 by omega]at hsp
  have hsp:Z7 S t m n=none:=hsp
  rw[hsp]
  repeat' first|apply jS|apply jO|apply jN|apply jT|refine Q1 ?_|refine Q2 ?_|refine Q0 ?_|refine Q7 ?_|refine Q3 ?_|(refine Qg (h1:=?_) (h2:=?_)<;>intro hc<;>try omega)|apply jU|apply jE|apply jR|refine Q4 rfl ?_|apply Qc
  exact Qj rfl (fun a w' st=>⟨JwR.same hJ st.kp (fun p hp=>st.hs.blk p hp),rfl⟩)


theorem Qbx (K:Nat) (w:World) (b:Nat) (J:JW) (m n t:Nat) (s:Int) (S:Sm) (hJ:jm J m n S) (hD:Dm m n S) (hs:aG (bJ b J m n t s) w) (hm:m≤200) (hn:n≤200) (bD:t<m) (htn:t<n) (hK:K≤4000000000) (hb:Ok K S) :
  Calls Tryz.prog 68 #[.pointer (some ⟨b,0,none⟩)] w (aQ fun _ w'=>JwR b J m n t s ((t+1:Nat):Int) s (if gE S.d t t<0 then S.neg t else S) w w'):=by
 have hM:=QK hs
 refine Qa [⟨3,1,[],[]⟩,⟨4,1,[],[]⟩,⟨5,1,[],[]⟩] (keys (bJ b J m n t s)) hM (bJ b J m n t s) Tryz.func68 rfl mixed (by kernel_rfl) Tryz.ntmps68 Tryz.results68 rfl hs (fun p hp=>List.mem_map.2 ⟨p,hp,rfl⟩) ?_
 simp only[toS,Qe,Qx,Qo,Qr,ay,Ql,Qy,aB]
 unfold bJ iq
 repeat' first|apply jS|apply jO|apply jN|refine Q1 ?_|refine Q2 ?_|refine Q0 ?_|refine Q7 ?_|refine Q3 ?_|apply jT
 refine Q9 au rfl aF rfl (fun w _ hs=>YO w b J m n t s S t t hJ hs bD htn hm hn) fun w v w' _ _ _ hR=>?_
 subst hR
 skip
 refine Q9 au rfl aF rfl (fun w _ _=>Q6u w _ (gE S.d t t) K (QC (QT hb.d _ _)) oq) fun w v w' _ _ _ hR=>?_
 subst hR
 have hsg:(gE S.d t t).sign<0↔gE S.d t t<0:=Int.sign_neg_iff
 by_cases hneg:gE S.d t t<0
 ·have:=hsg.2 hneg
  rw[if_pos hneg]
  repeat' first|apply jS|apply jO|apply jN|apply jT|(refine Qg (h1:=?_) (h2:=?_)<;>intro hc<;>try omega)|refine Q5 rfl ?_
  all_goals first
   | (exfalso;omega)
   | skip
  refine Q9 au rfl aF rfl (fun w _ _=>Yc w (-2) oq oq) fun w v w' _ _ _ hR=>?_
  subst hR
  repeat' first|apply jS|apply jD|apply jN|refine Q1 ?_|refine Q2 ?_|refine Q3 ?_|refine Q6 ?_|refine Qh fun _=>?_|refine Q6 ?_|apply jT
  have h0:=hJ.o
  refine QB 1 rfl rfl rfl rfl rfl rfl rfl rfl ?_
  repeat' first|refine Q1 ?_|refine Qm ?_|fail
  refine ZN (A:=[_,_]) (N:=J.N) (B:=[]) rfl au rfl aF rfl (fun w hs=>Xu K 1 w J.d.A J.d.c _ J.N m n t t (-2) (gE S.d) (hJ.wd _ _ _ _) h0 hs bD bD hm hn oq dq (fun a b' _ _=>QT hb.d a b')) (fun _ h=>hJ.ky h0 h) (fun u N1 h1=>?_)
  rw[Qk (fun a b' _ hb'=>Qaz hD.d bD hb')]at h1
  repeat' first|apply jS|apply jD|apply jN|refine Q1 ?_|refine Q2 ?_|refine Q3 ?_|apply jT
  refine QB 1 rfl rfl rfl rfl rfl rfl rfl rfl ?_
  repeat' first|refine Q1 ?_|refine Qm ?_|fail
  refine ZN (A:=[_,_]) (N:=N1) (B:=[]) rfl au rfl aF rfl (fun w hs=>Xu K 1 w J.u.A J.u.c _ N1 m m t t (-2) (gE S.u) (hJ.wu _ _ _ _) h1 hs bD bD hm hm oq dq (fun a b' _ _=>QT hb.u a b')) (fun _ h=>hJ.ky h1 h) (fun u N2 h2=>?_)
  rw[Qk (fun a b' _ hb'=>Qaz hD.u bD hb')]at h2
  repeat' first|apply jD|apply jN|refine Q1 ?_|refine Q2 ?_|refine Q3 ?_|apply jT
  refine QB 1 rfl rfl rfl rfl rfl rfl rfl rfl ?_
  repeat' first|refine Q1 ?_|refine Qm ?_|fail
  refine ZN (A:=[_,_]) (N:=N2) (B:=[]) rfl au rfl aF rfl (fun w hs=>Wt K 1 w J.ui.A J.ui.c _ N2 m m t t (-2) (gE S.ui) (hJ.wui _ _ _ _) h2 hs bD bD hm hm oq dq (fun a b' _ _=>QT hb.ui a b')) (fun _ h=>hJ.ky h2 h) (fun u N3 h3=>?_)
  rw[Qk (fun a b' ha _=>Qjt hD.ui bD ha)]at h3
  repeat' first|apply jO|apply jN|refine Q1 ?_|refine Q2 ?_|refine Q7 ?_|refine Qd ?_|refine Q3 ?_|refine QO ?_|apply jT
  exact Ze (fun a w' st=>⟨st.kp,{ J with N:=N3 },Q0e (hJ.ky hJ.o h3),fun p hp=>st.hs.blk p (Vc _ hp),hJ.turn h3,⟨N3,rfl⟩⟩)
 ·have:=fun h=>hneg (hsg.1 h)
  rw[if_neg hneg]
  repeat' first|apply jO|apply jN|apply jT|refine Q1 ?_|refine Q2 ?_|refine Q7 ?_|refine Qd ?_|refine Q3 ?_|(refine Qg (h1:=?_) (h2:=?_)<;>intro hc<;>try omega)|refine QO ?_|apply jK|refine Q4 rfl ?_
  all_goals first
   | (exfalso;omega)
   | skip
  exact Ze (fun a w' st=>⟨st.kp,J,rfl,fun p hp=>st.hs.blk p hp,hJ,fZ.refl J⟩)


theorem Qgr (K:Nat) (w:World) (b:Nat) (J:JW) (m n t s k kk:Nat) (S:Sm) (hJ:jm J m n S) (hD:Dm m n S) (hs:aG (bJ b J m n t s) w) (hm:m≤200) (hn:n≤200) (bD:t≤m) (htn:t≤n) (hK:K≤4000000000) (hkk:k≤kk) (hkk0:kk<1099511627776) (hsk:s+k≤1099511627776) (hend:k=kk∨s+k=1099511627776)
  (hb:∀ j,j≤(aJ m n k t S).2.2→Ok K (aJ m n j t S).1) :
  Calls Tryz.prog 27 #[.pointer (some ⟨b,0,none⟩),nv kk] w (aQ fun v w'=>JwR b J m n t s ((aJ m n k t S).2.1:Nat) ((s+(aJ m n k t S).2.2:Nat):Int) (aJ m n k t S).1 w w'∧v=iv (if (Qv (aJ m n k t S).1 (aJ m n k t S).2.1 m n).2.2=true then 60 else 0)):=by
 have hM:=QK hs
 refine Qa [] (keys (bJ b J m n t s)) hM (bJ b J m n t s) Tryz.func27 rfl mixed (by kernel_rfl) Tryz.ntmps27 Tryz.results27 rfl hs (fun p hp=>List.mem_map.2 ⟨p,hp,rfl⟩) ?_
 simp only[toS,Qe,Qx,Qo,Qr,ay,Ql,Qy,aB]
 repeat' first|apply jS|apply jO|apply jN|apply jT|refine Q1 ?_|refine Q0 ?_|refine Qq ?_|(refine Qg (h1:=?_) (h2:=?_)<;>intro hc<;>try omega)|(refine QU (h1:=?_) (h2:=?_)<;>intro hc<;>try omega)|apply jK|refine Q4 rfl ?_|apply jB
 refine Qn (ι:=Nat × Nat × Sm × JW) ⟨fun z=>[(5,nv z.1),(0,.pointer (some ⟨b,0,none⟩)),(1,nv kk)],fun z=>bJ b z.2.2.2 m n z.2.1 ((s+z.1:Nat):Int),
  fun z=>z.1≤k∧Dm m n z.2.2.1∧jm z.2.2.2 m n z.2.2.1∧fZ J z.2.2.2∧keys (bJ b z.2.2.2 m n z.2.1 ((s+z.1:Nat):Int))=keys (bJ b J m n t s)∧z.2.1≤m∧z.2.1≤n ∧
   aJ m n k t S=((aJ m n (k-z.1) z.2.1 z.2.2.1).1,(aJ m n (k-z.1) z.2.1 z.2.2.1).2.1,(aJ m n (k-z.1) z.2.1 z.2.2.1).2.2+z.1) ∧
   ∀ j,j≤(aJ m n (k-z.1) z.2.1 z.2.2.1).2.2→Ok K (aJ m n j z.2.1 z.2.2.1).1,fun z=>k-z.1⟩ (0,t,S,J) ⟨V8 _,hD,hJ,fZ.refl J,rfl,bD,htn,rfl,hb⟩ aC (HSub.refl _) (fun z hz=>?_)
 obtain⟨i,t1,S1,J1⟩:=z
 obtain⟨hik,hD1,hJ1,hF1,hk1,eG,eU,hrun,hok⟩:=hz
 dsimp only at hik hD1 hJ1 hF1 hk1 eG eU hrun hok ⊢
 have hb1:Ok K S1:=hok 0 (V8 _)
 by_cases hlt:i<k
 ·repeat' first|apply jS|refine Q1 ?_|(refine Qg (h1:=?_) (h2:=?_)<;>intro hc<;>try omega)|apply jO
  refine Q9 au rfl aF rfl (fun w _ hs=>XH K w b J1 m n t1 ((s+i:Nat):Int) S1 hJ1 hs hm hn eG eU oq hb1.d) fun w v w' _ _ _ hR=>?_
  subst hR
  by_cases hle:(Qv S1 t1 m n).2.2=true
  ·rw[hle]
   obtain⟨⟨l1,l2,l3,l4⟩,hlv⟩:=X7 hle
   repeat' first|apply jS|apply jO|apply jN|apply jT|refine Q1 ?_|refine Q2 ?_|refine Q7 ?_|refine Qp ?_|refine QG ?_|refine Q3 ?_|(refine Qg (h1:=?_) (h2:=?_)<;>intro hc<;>try omega)|apply jK|refine Q5 rfl ?_|apply jB
   refine XO (A:=[]) rfl au rfl aF rfl (fun w hs=>Qgp K w b J1 m n t1 ((s+i:Nat):Int) S1 hJ1 hD1 hs hm hn eG eU oq hb1 hle) fun v J2 hk2 hJ2 hF2 hR=>?_
   subst hR
   rw[Vr]
   by_cases hmv:(Qv S1 t1 m n).1≠t1∨(Qv S1 t1 m n).2.1≠t1
   ·have hst:dH m n t1 S1=some (S1.ex (Qv S1 t1 m n).1 (Qv S1 t1 m n).2.1 t1,t1):=by
     unfold dH
     rw[if_neg (by rw[hle];simp),if_pos hmv]
    rw[decide_eq_true hmv]
    repeat' first|apply jS|apply jO|apply jN|apply jT|refine Q1 ?_|refine Q2 ?_|refine Q0 ?_|refine Q7 ?_|refine Qd ?_|refine QG ?_|refine Q3 ?_|refine QO ?_|apply jK|refine Q4 rfl ?_|apply jW
    obtain⟨hrun2,hok2⟩:=YT hlt hrun hok hst
    obtain⟨hD2,gV,gW⟩:=Xl hD1 hst
    exact Q8 (i+1,t1,S1.ex (Qv S1 t1 m n).1 (Qv S1 t1 m n).2.1 t1,J2) ⟨hlt,hD2,hJ2,hF1.trans hF2,hk2.trans hk1,gV,gW,hrun2,hok2⟩ aW aC (HSub.refl _)
   ·rw[decide_eq_false hmv]
    obtain⟨e1,e2⟩:(Qv S1 t1 m n).1=t1∧(Qv S1 t1 m n).2.1=t1:=by omega
    rw[e1]at l2
    rw[e2]at l4
    rw[e1,e2]at hlv
    rw[e1,e2,Qfa hD1 l2 l4]at hJ2
    repeat' first|apply jS|apply jO|apply jN|apply jT|refine Q1 ?_|refine Q0 ?_|refine QG ?_|refine Q5 rfl ?_
    refine XO (A:=[]) rfl au rfl aF rfl (fun w hs=>Qd0 K w b J2 m n t1 ((s+i:Nat):Int) S1 hJ2 hD1 hs hm hn l2 l4 oq hb1 hlv) fun v J3 hk3 hJ3 hF3 hR=>?_
    subst hR
    rw[Vr]
    cases hcl:fB m n t1 S1 with
    | some S2 =>
     rw[hcl]at hJ3
     repeat' first|apply jS|apply jO|apply jN|apply jT|refine Q1 ?_|refine Q2 ?_|refine Q0 ?_|refine Q7 ?_|refine Qd ?_|refine QG ?_|refine Q3 ?_|refine QO ?_|apply jK|refine Q4 rfl ?_|apply jW
     have hst:=Qdj hle hmv hcl
     obtain⟨hrun2,hok2⟩:=YT hlt hrun hok hst
     obtain⟨hD2,gV,gW⟩:=Xl hD1 hst
     exact Q8 (i+1,t1,S2,J3) ⟨hlt,hD2,hJ3,(hF1.trans hF2).trans hF3,hk3.trans (hk2.trans hk1),gV,gW,hrun2,hok2⟩ aW aC (HSub.refl _)
    | none =>
     rw[hcl]at hJ3
     repeat' first|apply jS|apply jO|apply jN|apply jT|refine Q1 ?_|refine Q0 ?_|refine QG ?_|refine Q5 rfl ?_
     refine XO (A:=[]) rfl au rfl aF rfl (fun w hs=>Qk7 K w b J3 m n t1 ((s+i:Nat):Int) S1 hJ3 hD1 hs hm hn l2 l4 oq hb1 hlv) fun v J4 hk4 hJ4 hF4 hR=>?_
     subst hR
     rw[Vr]
     cases hsp:Z7 S1 t1 m n with
     | some q =>
      rw[hsp]at hJ4
      repeat' first|apply jS|apply jO|apply jN|apply jT|refine Q1 ?_|refine Q2 ?_|refine Q0 ?_|refine Q7 ?_|refine Qd ?_|refine QG ?_|refine Q3 ?_|refine QO ?_|apply jK|refine Q4 rfl ?_|apply jW
      have hst:=Qdi hle hmv hcl hsp
      obtain⟨hrun2,hok2⟩:=YT hlt hrun hok hst
      obtain⟨hD2,gV,gW⟩:=Xl hD1 hst
      exact Q8 (i+1,t1,_,J4) ⟨hlt,hD2,hJ4,((hF1.trans hF2).trans hF3).trans hF4,hk4.trans (hk3.trans (hk2.trans hk1)),gV,gW,hrun2,hok2⟩ aW aC (HSub.refl _)
     | none =>
      rw[hsp]at hJ4
      repeat' first|apply jS|apply jO|apply jN|apply jT|refine Q1 ?_|refine Q0 ?_|refine QG ?_|refine Q5 rfl ?_
      have hst:=Qdh hle hmv hcl hsp
      refine XO (A:=[]) (R:=fun _=>True) rfl au rfl aF rfl (fun w hs=>(Qbx K w b J4 m n t1 ((s+i:Nat):Int) S1 hJ4 hD1 hs hm hn l2 l4 oq hb1).mono fun e w' he=>by
        cases e with
        | panicked _=>exact he.elim
        | outgrown=>exact he.elim
        | returned v=>exact⟨he,trivial⟩) (fun v J5 hk5 hJ5 hF5 _=>?_)
      rw[Vr]
      repeat' first|apply jO|apply jN|apply jT|refine Q1 ?_|refine Q2 ?_|refine Q0 ?_|refine Q7 ?_|refine Qd ?_|refine Q3 ?_|refine QO ?_|apply jW
      obtain⟨hrun2,hok2⟩:=YT hlt hrun hok hst
      obtain⟨hD2,gV,gW⟩:=Xl hD1 hst
      exact Q8 (i+1,t1+1,_,J5) ⟨hlt,hD2,hJ5,(((hF1.trans hF2).trans hF3).trans hF4).trans hF5,hk5.trans (hk4.trans (hk3.trans (hk2.trans hk1))),gV,gW,hrun2,hok2⟩ aW aC (HSub.refl _)
  ·have hle:(Qv S1 t1 m n).2.2=false:=by simpa using hle
   rw[hle]
   repeat' first|apply jS|apply jO|apply jN|apply jT|refine Q1 ?_|refine Qp ?_|refine Qq ?_|refine QG ?_|apply jU|refine Q4 rfl ?_|apply Qc|refine QA ?_|apply jE
   refine Q9 au rfl aF rfl (fun w _ hs=>XH K w b J1 m n t1 ((s+i:Nat):Int) S1 hJ1 hs hm hn eG eU oq hb1.d) fun w v w' _ _ _ hR=>?_
   subst hR
   have hrn:aJ m n k t S=(S1,t1,i):=by rw[hrun,Q5w hle];dsimp only;rw[Vq]
   rw[hrn]
   dsimp only
   rw[hle]
   repeat' first|apply jS|apply jO|apply jN|apply jT|refine Q1 ?_|refine Q0 ?_|apply jV|apply jR|refine Q5 rfl ?_
   exact Qj rfl (fun a w' st=>⟨⟨st.kp,J1,hk1,fun p hp=>st.hs.blk p hp,hJ1,hF1⟩,rfl⟩)
 ·obtain rfl:i=k:=by omega
  by_cases hkk':i<kk
  ·have hs9:s+i=1099511627776:=by omega
   have hrn:aJ m n i t S=(S1,t1,i):=by rw[hrun,Nat.sub_self];show (S1,t1,0+i)=_;rw[Vq]
   rw[hrn]
   dsimp only
   repeat' first|apply jS|refine Q1 ?_|(refine Qg (h1:=?_) (h2:=?_)<;>intro hc<;>try omega)|apply jO
   refine Q9 au rfl aF rfl (fun w _ hs=>XH K w b J1 m n t1 ((s+i:Nat):Int) S1 hJ1 hs hm hn eG eU oq hb1.d) fun w v w' _ _ _ hR=>?_
   subst hR
   by_cases hle:(Qv S1 t1 m n).2.2=true
   ·rw[hle]
    repeat' first|apply jS|apply jO|apply jN|apply jT|refine Q1 ?_|refine Q2 ?_|refine Q7 ?_|refine Qp ?_|refine QG ?_|refine Q3 ?_|(refine Qg (h1:=?_) (h2:=?_)<;>intro hc<;>try omega)|apply jU|apply jE|refine Q4 rfl ?_|apply Qc
    all_goals first
     | (exfalso;omega)
     | skip
    refine Q9 au rfl aF rfl (fun w _ hs=>XH K w b J1 m n t1 ((s+i:Nat):Int) S1 hJ1 hs hm hn eG eU oq hb1.d) fun w v w' _ _ _ hR=>?_
    rw[hle]at hR
    subst hR
    repeat' first|apply jS|apply jO|apply jN|apply jT|refine Q1 ?_|refine Q0 ?_|apply jK|apply jR|refine Q4 rfl ?_
    exact Qj rfl (fun a w' st=>⟨⟨st.kp,J1,hk1,fun p hp=>st.hs.blk p hp,hJ1,hF1⟩,rfl⟩)
   ·have hle:(Qv S1 t1 m n).2.2=false:=by simpa using hle
    rw[hle]
    repeat' first|apply jS|apply jO|apply jN|apply jT|refine Q1 ?_|refine Qp ?_|refine Qq ?_|refine QG ?_|apply jU|refine Q4 rfl ?_|apply Qc|refine QA ?_|apply jE
    refine Q9 au rfl aF rfl (fun w _ hs=>XH K w b J1 m n t1 ((s+i:Nat):Int) S1 hJ1 hs hm hn eG eU oq hb1.d) fun w v w' _ _ _ hR=>?_
    rw[hle]at hR
    subst hR
    repeat' first|apply jS|apply jO|apply jN|apply jT|refine Q1 ?_|refine Q0 ?_|apply jV|apply jR|refine Q5 rfl ?_
    exact Qj rfl (fun a w' st=>⟨⟨st.kp,J1,hk1,fun p hp=>st.hs.blk p hp,hJ1,hF1⟩,rfl⟩)
  ·repeat' first|apply jS|apply jO|apply jN|apply jT|refine Q1 ?_|refine Qq ?_|(refine Qg (h1:=?_) (h2:=?_)<;>intro hc<;>try omega)|apply jU|refine Q4 rfl ?_|apply Qc|refine QA ?_|apply jE
   refine Q9 au rfl aF rfl (fun w _ hs=>XH K w b J1 m n t1 ((s+i:Nat):Int) S1 hJ1 hs hm hn eG eU oq hb1.d) fun w v w' _ _ _ hR=>?_
   subst hR
   by_cases hle:(Qv S1 t1 m n).2.2=true
   ·have hrn:aJ m n i t S=(S1,t1,i):=by rw[hrun,Nat.sub_self];show (S1,t1,0+i)=_;rw[Vq]
    rw[hrn]
    dsimp only
    rw[hle]
    repeat' first|apply jS|apply jO|apply jN|apply jT|refine Q1 ?_|refine Q0 ?_|apply jK|apply jR|refine Q4 rfl ?_
    exact Qj rfl (fun a w' st=>⟨⟨st.kp,J1,hk1,fun p hp=>st.hs.blk p hp,hJ1,hF1⟩,rfl⟩)
   ·have hle:(Qv S1 t1 m n).2.2=false:=by simpa using hle
    have hrn:aJ m n i t S=(S1,t1,i):=by rw[hrun,Nat.sub_self];show (S1,t1,0+i)=_;rw[Vq]
    rw[hrn]
    dsimp only
    rw[hle]
    repeat' first|apply jS|apply jO|apply jN|apply jT|refine Q1 ?_|refine Q0 ?_|apply jV|apply jR|refine Q5 rfl ?_
    exact Qj rfl (fun a w' st=>⟨⟨st.kp,J1,hk1,fun p hp=>st.hs.blk p hp,hJ1,hF1⟩,rfl⟩)


theorem Qd2 (K:Nat) (w:World) (b:Nat) (J:JW) (m n t:Nat) (s:Int) (S:Sm) (hJ:jm J m n S) (hs:aG (bJ b J m n t s) w) (hm:m≤200) (hn:n≤200) (bD:t≤m) (htn:t≤n) (hb:gZ K S.d=true) :
  Calls Tryz.prog 69 #[.pointer (some ⟨b,0,none⟩)] w (aQ fun v w'=>Kp [] w w'∧∃ N,New N w w'∧aN N v t ((List.range t).map fun k=>gE S.d k k)):=by
 have hM:=QK hs
 refine Qa [] (keys (bJ b J m n t s)) hM (bJ b J m n t s) Tryz.func69 rfl mixed (by kernel_rfl) Tryz.ntmps69 Tryz.results69 rfl hs (fun p hp=>List.mem_map.2 ⟨p,hp,rfl⟩) ?_
 simp only[toS,Qe,Qx,Qo,Qr,ay,Ql,Qy,aB]
 unfold bJ iq
 repeat' first|apply jS|apply jO|apply jN|apply jT|refine Q0 ?_|apply jB
 refine Qn (ι:=Nat × aj × Value) ⟨fun z=>[(4,nv z.1),(3,z.2.2),(0,.pointer (some ⟨b,0,none⟩))],fun z=>bJ b J m n t s++(z.2.1++[]),
  fun z=>z.1≤t∧aN z.2.1 z.2.2 z.1 ((List.range z.1).map fun k=>gE S.d k k),fun z=>t-z.1⟩ (0,[],.slice none 0 0) ⟨V8 _,aN.nil⟩ aC (by show HSub (bJ b J m n t s++[]) _;rw[Vh (bJ b J m n t s)];exact HSub.refl _) (fun z hz=>?_)
 obtain⟨k,N,v4⟩:=z
 obtain⟨hk,hO⟩:=hz
 dsimp only at hk hO ⊢
 unfold bJ iq
 by_cases hlt:k<t
 ·have hk1:k<m:=by omega
  have hk2:k<n:=by omega
  repeat' first|apply jS|apply jO|apply jN|apply jT|refine Q1 ?_|refine Q2 ?_|refine Q7 ?_|refine Q3 ?_|(refine Qg (h1:=?_) (h2:=?_)<;>intro hc<;>try omega)|apply jK|refine Q5 rfl ?_|apply jB
  refine Q9 au rfl aF rfl (fun w _ hs=>YO w b J m n t s S k k hJ (HSub.dJ.aV hs) hk1 hk2 hm hn) fun w v w' _ _ _ hR=>?_
  subst hR
  skip
  refine Wy (sz:=2) (vs:=[Wv (gE S.d k k)]) (cl:=[.bool (wz (gE S.d k k)).1,sv (wz (gE S.d k k)).2]) rfl rfl (by first|rfl|trivial|exact⟨rfl,rfl⟩) rfl rfl (fun v hv=>by
   cases List.mem_singleton.1 hv;rfl) rfl dq dq (fun b2=>?_)
  have h1:=Q2t b2 (gE S.d k k)
  skip
  refine Zi (A:=_::bJ b J m n t s) (B:=[]) hO h1.rd Qb rfl au rfl rfl rfl rfl oq (fun v' N' aX=>?_)
  rw[show (List.map (fun k=>gE S.d k k) (List.range k))++[gE S.d k k]=List.map (fun k=>gE S.d k k) (List.range (k+1)) by rw[List.range_succ,Vj];rfl]at aX
  repeat' first|apply jO|apply jN|apply jT|refine Q1 ?_|refine Q0 ?_|refine Qd ?_|apply jW
  exact Q8 (k+1,N',v') ⟨by dsimp only;omega,aX⟩ aW aC (HSub.skip (HSub.refl _))
 ·obtain rfl:k=t:=by omega
  repeat' first|apply jS|apply jO|apply jN|apply jT|refine Q1 ?_|refine Q2 ?_|refine Q0 ?_|refine Q7 ?_|refine Q3 ?_|(refine Qg (h1:=?_) (h2:=?_)<;>intro hc<;>try omega)|apply jU|apply jE|apply jR|refine Q4 rfl ?_|apply Qc
  exact Qj rfl (fun a w' st=>⟨Z3 hs st.kp (fun p hp=>st.hs.blk p (List.mem_append_left _ hp)),N,newJ st rfl (by rw[Vh N];exact HSub.refl _),hO⟩)


theorem Qgq (K:Nat) (w:World) (b b':Nat) (W:WV) (T:WT) (J:JW) (m n t s:Nat) (S:Sm) (hW:dB W m n T S) (hJ:jm J m n S) (hD:Dm m n S) (hs0:aG (bJ b' J m n t s++(aK b W m n t s T++[])) w) (hm:m≤200) (hn:n≤200) (bD:t≤m) (htn:t≤n) (hs9:s<1099511627777) (hK:8≤K) (hK2:K≤3000000000) (htab:iU w) (hlen:(bU (encZ m n t s S)).length≤281474976710656) (hb:Ok K S) :
  Calls Tryz.prog 28 #[.pointer (some ⟨b,0,none⟩),.pointer (some ⟨b',0,none⟩)] w (aQ fun v w'=>Kp [] w w'∧v=.bool true):=by
 obtain⟨R,hRe⟩:∃ R,R=J.N++[]:=⟨_,rfl⟩
 have hjb:bJ b' J m n t s=(b',.cells (iq J m n t s) 72)::R:=by rw[hRe];rfl
 have hs:aG ((b',.cells (iq J m n t s) 72)::(R++(aK b W m n t s T++[]))) w:=by rw[hjb]at hs0;exact hs0
 have hM:=QK hs
 have ej:HSub (bJ b' J m n t s) ((b',.cells (iq J m n t s) 72)::R):=by rw[hjb];exact HSub.refl _
 refine Qa [⟨4,1,[0,2,1,3,4,5,6,7,8,9,10,11,12,13,14,15,16,17,18,19,20,21,22,23,24,25,26,28,29,30,31,27,32,33,34],[]⟩] (keys ((b',.cells (iq J m n t s) 72)::(R++(aK b W m n t s T++[])))) hM ((b',.cells (iq J m n t s) 72)::(R++(aK b W m n t s T++[]))) Tryz.func28 rfl mixed (by kernel_rfl) Tryz.ntmps28 Tryz.results28 rfl hs (fun p hp=>List.mem_map.2 ⟨p,hp,rfl⟩) ?_
 simp only[toS,Qe,Qx,Qo,Qr,ay,Ql,Qy,aB]
 unfold iq at ej ⊢
 repeat' first|apply jS|apply jO|apply jN|refine Q1 ?_|refine Q0 ?_|apply jT
 refine Q1s (by kernel_rfl) rfl rfl rfl rfl ?_
 repeat' first|apply jS|apply jO|apply jN|apply jT|refine Q1 ?_|apply jK|refine Q4 rfl ?_
 all_goals first
  | (exfalso;omega)
  | skip
 refine Qt (A:=[_]) (B:=R++(aK b W m n t s T++[])) rfl au rfl aF rfl (fun w _ hs=>Q6s K w b W m n t s T S hW ((show HSub (aK b W m n t s T) _ by exact HSub.skip (Qf HSub.dJ)).aV hs) oq oq bD htn oq hb.d) fun w v w' _ _ _ hR=>?_
 obtain⟨Na,Ea,rfl,hN,hONa⟩:=hR
 obtain⟨Aa,ca,rfl⟩:=hONa.form
 refine⟨Na,hN,?_⟩
 clear hN
 repeat' first|refine Q1 ?_|refine Q0 ?_|refine Qu (h:=?_)|apply jN
 refine JX.part (F':=[(5,.slice Aa t ca),(6,nv t),(7,.bool (!(Qv S t m n).2.2)),(0,.pointer (some ⟨b,0,none⟩)),(1,.pointer (some ⟨b',0,none⟩))]) (H':=(b',.cells #[nv m,nv m,.slice J.u.A (m*m) J.u.c,nv m,nv m,.slice J.ui.A (m*m) J.ui.c,nv m,nv n,.slice J.d.A (m*n) J.d.c,nv n,nv n,.slice J.v.A (n*n) J.v.c,nv n,nv n,.slice J.vi.A (n*n) J.vi.c,nv t,nv s] 72)::(Na++(R++(aK b W m n t s T++[])))) aC (HSub.refl _) ?_
 apply Zf
 repeat' first|apply jS|refine Q1 ?_|apply jD
 refine Q9 au rfl aF rfl (fun w hk hs2=>Q23 K w b W m n t s T S hW hD ((show HSub (aK b W m n t s T) _ by exact HSub.skip (Qf (Qf HSub.dJ))).aV hs2) hm hn oq hs9 (htab.mono (Z3 hs hk fun p hp=>hs2.blk p ((show HSub ((b',.cells (iq J m n t s) 72)::(R++(aK b W m n t s T++[]))) _ by exact HSub.at 0 rfl (Qf (HSub.refl _))).mem p hp))) hK oq hlen hb) fun w v w' _ _ _ hR=>?_
 subst hR
 skip
 refine Q9 au rfl aF rfl (fun w _ hs=>Q4q K w b' J m n t s S hJ hD ((ej.trans (HSub.at 0 rfl (Qf HSub.dJ))).aV hs) oq oq oq oq hK oq hb) fun w v w' _ _ _ hR=>?_
 subst hR
 refine Qjn (l:=bU (encZ m n t s S)) rfl rfl rfl rfl ?_
 repeat' first|refine Q1 ?_|fail
 refine Qt (A:=[_]) (B:=Na++(R++(aK b W m n t s T++[]))) rfl au rfl aF rfl (fun w _ hs=>Qd2 K w b' J m n t s S hJ ((ej.trans (HSub.at 0 rfl (Qf HSub.dJ))).aV hs) oq oq bD htn hb.d) fun w v w' _ _ _ hR=>?_
 obtain⟨Nb,hN,hONb⟩:=hR
 obtain⟨Ab,cb,rfl⟩:=hONb.form
 refine⟨Nb,hN,?_⟩
 clear hN
 skip
 refine Q9 au rfl aF rfl (fun w hk hs=>Qg9 w _ _ t t _ _ (hONa.rd.at hk hs Qb) (hONb.rd.at hk hs Qb) oq oq) fun w v w' _ _ _ hR=>?_
 obtain rfl:=Qo7 hR rfl
 repeat' first|refine Q1 ?_|refine Q2 ?_|refine Q7 ?_|refine Qp ?_|refine Q3 ?_|(refine Zm (h1:=?_) (h2:=?_)<;>intro hc<;>try omega)|fail
 refine Q9 au rfl aF rfl (fun w _ hs=>XH K w b' J m n t s S hJ ((ej.trans (HSub.at 0 rfl (Qf (Qf HSub.dJ)))).aV hs) oq oq bD htn oq hb.d) fun w v w' _ _ _ hR=>?_
 subst hR
 refine Qeb (b:=!(Qv S t m n).2.2) rfl rfl rfl rfl ?_
 repeat' first|refine Q1 ?_|refine Q2 ?_|refine Q7 ?_|refine Qp ?_|refine Q3 ?_|fail
 refine Q9 au rfl aF rfl (fun w _ hs=>Qim w b W m n t s T ((show HSub (aK b W m n t s T) _ by exact Qf (Qf (Qf (Qf HSub.dJ)))).aV hs)) fun w v w' _ _ _ hR=>?_
 subst hR
 repeat' first|apply jN|apply jT|refine Q0 ?_|refine Qp ?_|(refine Zm (h1:=?_) (h2:=?_)<;>intro hc<;>try omega)|apply jR
 all_goals first
  | (exfalso;omega)
  | exact Qj rfl (fun a w' st=>⟨Z3 hs st.kp (fun p hp=>((show HSub ((b',.cells (iq J m n t s) 72)::(R++(aK b W m n t s T++[]))) _ by exact HSub.at 0 rfl (Qf (Qf (Qf (HSub.refl _))))).aV st.hs).blk p hp),rfl⟩)

theorem Qbk (w:World) (m n:Nat) (t s:Int) (S:Sm) (hD:Dm m n S) (hm:m≤200) (hn:n≤200) (hlen:(bU (encZ m n t s S)).length≤3000000) (hmax:MaxL w) (htab:iU w) :
  Calls Tryz.prog 30 #[sv (bU (encZ m n t s S))] w (aQ fun v w'=>Kp [] w w'∧((opnP m n t s S∧∃ b W T,v=.tuple #[.pointer (some ⟨b,0,none⟩),iv 0]∧New (aK b W m n t s T) w w'∧dB W m n T S)∨(¬opnP m n t s S∧v=.tuple #[.pointer none,iv 11]))):=by
 rw[Q20]at hlen ⊢
 obtain⟨x0,l0,he⟩:∃ x0 l0,(encZ m n t s S).map tx=x0::l0:=⟨_,_,rfl⟩
 have hB:∀ y∈x0::l0,NoB y:=fun y hy=>by
  rw[← he]at hy
  obtain⟨a,_,rfl⟩:=List.mem_map.1 hy
  exact Q9o a
 rw[he]at hlen ⊢
 refine Zk (Qbj w x0 l0 hB hlen hmax htab) fun v w' h=>⟨h.1,?_⟩
 rcases h.2 with ⟨m',n',t',s',S',b,W,T,ho,hv,hN,hW⟩|⟨hno,hv⟩
 ·have hnum:=Q90 (encZ m n t s S)
  rw[he]at hnum
  obtain⟨rfl,rfl,rfl,rfl,rfl⟩:=Q6k hD ho.d (ho.num hnum)
  exact .inl ⟨ho.p,b,W,T,hv,hN,hW⟩
 ·exact .inr ⟨fun hp=>hno m n t s S ⟨he.symm,hm,hn,hD,hp⟩,hv⟩
theorem Qhd (w:World) (hmax:MaxL w) (htab:iU w):Calls Tryz.prog 30 #[.string ⟨#[48,32,48,32,48,32,48]⟩] w (aQ fun v w'=>Kp [] w w'∧∃ b W T,v=.tuple #[.pointer (some ⟨b,0,none⟩),iv 0]∧New (aK b W 0 0 (0:Nat) (0:Nat) T) w w'∧dB W 0 0 T snZ):=by
 have h:=Qbk w 0 0 0 0 snZ Qjd dq dq (of_decide_eq_true (by kernel_rfl)) hmax htab
 rw[enZ]at h
 refine Zk h fun v w' h=>⟨h.1,?_⟩
 rcases h.2 with h|h
 ·exact h.2
 ·exact absurd ⟨by kernel_rfl,by kernel_rfl,by kernel_rfl⟩ h.1
theorem Qhe (w:World) (hmax:MaxL w) (htab:iU w):Calls Tryz.prog 30 #[.string ⟨#[49,32,49,32,49,32,53,32,49,32,49,32,48,32,49,32,49]⟩] w (aQ fun v w'=>Kp [] w w'∧v=.tuple #[.pointer none,iv 11]):=by
 have h:=Qbk w 1 1 1 5 snF Qni dq dq (of_decide_eq_true (by kernel_rfl)) hmax htab
 rw[enF]at h
 refine Zk h fun v w' h=>⟨h.1,?_⟩
 rcases h.2 with h|h
 ·exact absurd h.1.2.2 (by rw[show gX 1 1 1 5 snF=false by kernel_rfl];decide)
 ·exact h.2
theorem Q9a (w:World) (hmax:MaxL w) (htab:iU w):Calls Tryz.prog 13 #[] w (aQ fun v w'=>Kp [] w w'∧v=.bool true):=by
 have hmax0:=hmax
 have htab0:=htab
 refine Qa [] [] aA [] Tryz.func13 rfl mixed (by kernel_rfl) Tryz.ntmps13 Tryz.results13 rfl ⟨by simp,by simp⟩ aA ?_
 simp only[toS,Qe,Qx,Qo,Qr,ay,Ql,Qy,aB]
 repeat' first|apply jS|apply jO|apply jN|refine Q0 ?_|refine QH (h:=fun _=>?_)|apply jT
 refine Qt (A:=[_,_,_]) (B:=[]) rfl au rfl aF rfl (fun w hk hs=>c_Of w _ [[2,4],[3,5]] (Q9i [2,4] [3,5] (Q2i hs 0 rfl) (WI.lit [2,4] (Q2i hs 2 rfl) rfl rfl) (WI.lit [3,5] (Q2i hs 1 rfl) rfl rfl)) dq dq (Qls dq)) fun w v w' _ _ _ hR=>?_
 obtain⟨N1,hN1,E1,rfl,bG⟩:=hR
 refine⟨N1,hN1,?_⟩
 skip
 refine Qt (A:=[_,_,_]) (B:=N1++[]) rfl au rfl aF rfl (fun w hk hs=>Qpe w _ ⟨_,rfl,bG.rd.at hk hs Qb⟩) fun w v w' _ _ _ hR=>?_
 obtain⟨b,W0,T0,rfl,hN,hW0⟩:=hR
 refine⟨_,hN,?_⟩
 clear hN hN1
 repeat' first|refine Q0 ?_|apply jN
 refine JX.part (F':=[(1,.pointer (some ⟨b,0,none⟩))]) (H':=aK b W0 2 2 (0:Nat) (0:Nat) T0++[]) aC (by rw[Vh];exact HSub.skip (HSub.skip (HSub.skip HSub.dJ))) ?_
 clear bG
 apply Zf
 repeat' first|apply jS|refine Q1 ?_|apply jO
 refine Q1s (by kernel_rfl) rfl rfl rfl rfl ?_
 repeat' first|refine Q1 ?_|fail
 refine XL (A:=[]) (N:=aK b W0 2 2 (0:Nat) (0:Nat) T0) (B:=[]) (R:=fun w v w'=>jl b W0 2 2 (0:Nat) (0:Nat) T0 (0:Nat) (0:Nat) sn0 w w'∧v=iv 60) rfl au rfl aF rfl (fun w _ hs=>Qhc rn0 (by kernel_rfl) (by kernel_rfl) Qdm dq dq dq dq dq hW0 (by exact HSub.aV HSub.dJ hs)) (fun w1 v1 w2 _ _ _ hR=>?_)
 obtain⟨⟨_,W1,T1,hk,hin,hW1,_⟩,rfl⟩:=hR
 refine⟨aK b W1 2 2 (0:Nat) (0:Nat) T1,hk,hin,?_⟩
 clear hk hin hW0
 repeat' first|refine Q1 ?_|refine Qq ?_|(refine ZP (h1:=?_) (h2:=?_)<;>intro hc<;>try omega)|fail
 all_goals first
  | (exfalso;omega)
  | skip
 refine Q9 au rfl aF rfl (fun w _ hs=>Q8c 8 w b W1 2 2 0 0 T1 sn0 hW1 Qdm ((show HSub (aK b W1 2 2 (0:Nat) (0:Nat) T1) _ by exact HSub.dJ).aV hs) dq dq dq dq dq dq (Ok.of (by kernel_rfl))) fun w v w' _ _ _ hR=>?_
 rw[en0]at hR
 subst hR
 refine Qjj (l:=tS0) rfl rfl rfl rfl ?_
 repeat' first|apply jS|apply jO|apply jN|apply jT|refine Q1 ?_|refine Qq ?_|apply jK|refine Q4 rfl ?_
 refine Qt (A:=[]) (B:=aK b W1 2 2 (0:Nat) (0:Nat) T1++[]) rfl au rfl aF rfl (fun w _ hs=>Q6s 8 w b W1 2 2 0 0 T1 sn0 hW1 ((show HSub (aK b W1 2 2 (0:Nat) (0:Nat) T1) _ by exact HSub.dJ).aV hs) dq dq dq dq dq (by kernel_rfl)) fun w v w' _ _ _ hR=>?_
 rw[lf0]at hR
 obtain⟨Na,Ea,rfl,hN,hONa⟩:=hR
 rw[show (List.range 0).map (fun k=>gE sn0.d k k)=[] by kernel_rfl]at hONa
 obtain⟨Aa,ca,rfl⟩:=hONa.form
 refine⟨Na,hN,?_⟩
 clear hN
 repeat' first|refine Q1 ?_|refine Q0 ?_|refine Qu (h:=?_)|apply jN
 refine JX.part (F':=[(2,.slice Aa 0 ca),(3,nv 0),(4,.bool false),(1,.pointer (some ⟨b,0,none⟩))]) (H':=Na++(aK b W1 2 2 (0:Nat) (0:Nat) T1++[])) aC (HSub.refl _) ?_
 apply Zf
 repeat' first|apply jS|refine Q1 ?_|apply jO
 refine XL (A:=Na) (N:=aK b W1 2 2 (0:Nat) (0:Nat) T1) (B:=[]) (R:=fun w v w'=>jl b W1 2 2 (0:Nat) (0:Nat) T1 (0:Nat) (1:Nat) sn1 w w'∧v=iv 60) rfl au rfl aF rfl (fun w _ hs=>Qhc rn1 (by kernel_rfl) (by kernel_rfl) Qdm dq dq dq dq dq hW1 (by exact HSub.aV (Qf HSub.dJ) hs)) (fun w1 v1 w2 _ _ _ hR=>?_)
 obtain⟨⟨_,W2,T2,hk,hin,hW2,_⟩,rfl⟩:=hR
 refine⟨aK b W2 2 2 (0:Nat) (1:Nat) T2,hk,hin,?_⟩
 clear hk hin hW1
 repeat' first|apply jS|apply jO|apply jN|refine Q1 ?_|refine Q0 ?_|apply jT
 refine Q9 au rfl aF rfl (fun w _ hs=>Q8c 8 w b W2 2 2 0 1 T2 sn1 hW2 Qje ((show HSub (aK b W2 2 2 (0:Nat) (1:Nat) T2) _ by exact Qf HSub.dJ).aV hs) dq dq dq dq dq dq (Ok.of (by kernel_rfl))) fun w v w' _ _ _ hR=>?_
 rw[en1]at hR
 subst hR
 refine Qjn (l:=tS1) rfl rfl rfl rfl ?_
 repeat' first|apply jS|apply jO|apply jN|refine Q1 ?_|refine Q0 ?_|apply jT
 refine XL (A:=Na) (N:=aK b W2 2 2 (0:Nat) (1:Nat) T2) (B:=[]) (R:=fun w v w'=>jl b W2 2 2 (0:Nat) (1:Nat) T2 (2:Nat) (6:Nat) sn2 w w'∧v=iv 0) rfl au rfl aF rfl (fun w _ hs=>Qhc rn2 (by kernel_rfl) (by kernel_rfl) Qje dq dq dq dq dq hW2 (by exact HSub.aV (Qf HSub.dJ) hs)) (fun w1 v1 w2 _ _ _ hR=>?_)
 obtain⟨⟨_,W3,T3,hk,hin,hW3,_⟩,rfl⟩:=hR
 refine⟨aK b W3 2 2 (2:Nat) (6:Nat) T3,hk,hin,?_⟩
 clear hk hin hW2
 repeat' first|apply jS|apply jO|apply jN|refine Q1 ?_|refine Q0 ?_|apply jT
 refine Qt (A:=[]) (B:=Na++(aK b W3 2 2 (2:Nat) (6:Nat) T3++[])) rfl au rfl aF rfl (fun w _ hs=>Q6s 8 w b W3 2 2 2 6 T3 sn2 hW3 ((show HSub (aK b W3 2 2 (2:Nat) (6:Nat) T3) _ by exact Qf HSub.dJ).aV hs) dq dq dq dq dq (by kernel_rfl)) fun w v w' _ _ _ hR=>?_
 rw[lf2]at hR
 obtain⟨Nb,Eb,rfl,hN,hONb⟩:=hR
 rw[show (List.range 2).map (fun k=>gE sn2.d k k)=[1,2] by kernel_rfl]at hONb
 obtain⟨Ab,cb,rfl⟩:=hONb.form
 refine⟨Nb,hN,?_⟩
 clear hN
 repeat' first|refine Q1 ?_|refine Q0 ?_|refine Qu (h:=?_)|apply jN
 refine JX.part (F':=[(8,.slice Ab 2 cb),(9,nv 2),(10,.bool true),(7,iv 0),(6,.bool true),(5,iv 60),(2,.slice Aa 0 ca),(3,nv 0),(4,.bool false)]) (H':=Nb++(Na++[])) aC (by exact Qgk (by rw[Vh Na];exact HSub.dJ)) ?_
 apply Zf
 repeat' first|apply jS|apply jO
 refine Qt (A:=[]) (B:=Nb++(Na++[])) rfl au rfl aF rfl (fun w hk _=>Qhd w (hmax0.mono hk) (htab0.mono hk)) fun w v w' _ _ _ hR=>?_
 obtain⟨b2,W4,T4,rfl,hN,hW4⟩:=hR
 refine⟨_,hN,?_⟩
 clear hN
 repeat' first|apply jS|apply jO|apply jN|refine Q1 ?_|refine Q0 ?_|refine Qu (h:=?_)|apply jT
 refine Q9 au rfl aF rfl (fun w hk _=>Qhe w (hmax0.mono hk) (htab0.mono hk)) fun w v w' _ _ _ hR=>?_
 subst hR
 repeat' first|refine Q1 ?_|refine Q0 ?_|refine Qu (h:=?_)|apply jN
 refine JX.part (F':=[(13,.pointer none),(14,iv 11),(11,.pointer (some ⟨b2,0,none⟩)),(12,iv 0),(8,.slice Ab 2 cb),(9,nv 2),(10,.bool true),(7,iv 0),(6,.bool true),(5,iv 60),(2,.slice Aa 0 ca),(3,nv 0),(4,.bool false)]) (H':=aK b2 W4 0 0 (0:Nat) (0:Nat) T4++(Nb++(Na++[]))) aC (HSub.refl _) ?_
 apply Zf
 repeat' first|apply jS|refine Q1 ?_|refine Zt (h:=?_)|refine Qp ?_|refine QG ?_|(refine Zm (h1:=?_) (h2:=?_)<;>intro hc<;>try omega)|refine QH (h:=fun _=>?_)|apply jO
 refine Qt (A:=[_]) (B:=aK b2 W4 0 0 (0:Nat) (0:Nat) T4++(Nb++(Na++[]))) rfl au rfl aF rfl (fun w _ hs=>Qg8 w _ 2 [1,2] (WI.lit [1,2] (Q2i hs 0 rfl) rfl rfl) dq (Qoc dq)) fun w v w' _ _ _ hR=>?_
 obtain⟨Nc,hN,hONc⟩:=hR
 refine⟨Nc,hN,?_⟩
 clear hN
 skip
 refine Q9 au rfl aF rfl (fun w hk hs=>Qko w _ _ (hONb.rd.at hk hs Qb) (hONc.rd.at hk hs Qb)) fun w v w' _ _ _ hR=>?_
 subst hR
 repeat' first|refine Q1 ?_|refine Qp ?_|(refine Zm (h1:=?_) (h2:=?_)<;>intro hc<;>try omega)|fail
 all_goals first
  | (exfalso;omega)
  | skip
 refine Qph (by kernel_rfl) rfl rfl rfl rfl ?_
 repeat' first|refine Q1 ?_|refine Qp ?_|fail
 refine XL (A:=_::Nc) (N:=aK b2 W4 0 0 (0:Nat) (0:Nat) T4) (B:=Nb++(Na++[])) (R:=fun w v w'=>jl b2 W4 0 0 (0:Nat) (0:Nat) T4 (0:Nat) (0:Nat) snZ w w'∧v=iv 0) rfl au rfl aF rfl (fun w _ hs=>Qhc rnZ (by kernel_rfl) (by kernel_rfl) Qjd dq dq dq dq dq hW4 ((HSub.skip (Qf HSub.dJ)).aV hs)) (fun w1 v1 w2 _ _ _ hR=>?_)
 obtain⟨⟨_,W5,T5,hk,hin,_,_⟩,rfl⟩:=hR
 refine⟨aK b2 W5 0 0 (0:Nat) (0:Nat) T5,hk,hin,?_⟩
 repeat' first|apply jN|apply jT|refine Q1 ?_|refine Q0 ?_|refine Qp ?_|(refine Zm (h1:=?_) (h2:=?_)<;>intro hc<;>try omega)|apply jR
 all_goals first
  | (exfalso;omega)
  | exact Qj rfl (fun a w' st=>⟨st.kp,rfl⟩)

end Go.Proofs.YtbofgpenopcfaaaGreatDoor

namespace Go.Proofs.YtbofgpenopcfaaaGreatDoor
open Go Go.RowKit Go.ChangeShapes Go.WideShapes Go.ChangeAt

theorem own:ownKnob Tryz.prog.godebug=none:=by kernel_rfl
theorem Q94:laidOutB Tryz.prog=true:=by kernel_rfl

theorem Qoi:Tryz.prog.cellsOf 24=3:=by kernel_rfl

theorem Qj6 {n:Int} (h:(Lit.int .u8 n).wf=true):∃ m:Nat,n=m∧m<256:=by
 have h1:0≤n∧n<256:=by
  have hmin:IntKind.u8.min=0:=by decide
  have hmax:IntKind.u8.max=255:=by decide
  simp only[Lit.wf,Bool.and_eq_true,decide_eq_true_eq,hmin,hmax]at h
  omega
 exact⟨n.toNat,by omega,by omega⟩
theorem Qob {n:Int} (h:(Lit.int .i64 n).wf=true):I64 n:=by
 have hmin:IntKind.i64.min = -9223372036854775808:=by decide
 have hmax:IntKind.i64.max=9223372036854775807:=by decide
 simp only[Lit.wf,Bool.and_eq_true,decide_eq_true_eq,hmin,hmax]at h
 unfold I64
 omega
theorem Qic {l:List Int} (h:∀ n∈l,I64 n) (i:Nat):I64 (l.getD i 0):=by
 rw[List.getD]
 cases hi:l[i]? with
 | none=>exact⟨by decide,by decide⟩
 | some x=>exact h x (List.mem_of_getElem? hi)

theorem Qgg {w:World} {a:Addr} {len cap:Nat} {zs:List Int} (hl:len≤cap) (hz:zs.length=cap) (hc:∀ i,i<zs.length→w.cell? (a.add i)=some (.int .i64 (zs.getD i 0))):WI w (.slice (some a) len cap) len (zs.take len):=by
 refine⟨by simp[hz];omega,some a,cap,rfl,hl,fun h0=>?_⟩
 obtain⟨b,o,sp⟩:=a
 have hsp:sp=none:=by
  have:=hc 0 oq
  cases sp with
  | none=>rfl
  | some s =>
   simp only[Addr.add,if_true,World.cell?]at this
   split at this<;>simp at this
 subst hsp
 refine⟨⟨b,o,rfl⟩,fun j u hu=>?_⟩
 simp only[dK]
 rw[List.getElem?_map,List.getElem?_take]at hu
 split at hu
 ·rename_i hj
  have hjz:j<zs.length:=by omega
  rw[XB (d:=0) hjz]at hu
  cases hu
  rw[← ZD]
  exact hc j hjz
 ·cases hu

set_option maxRecDepth 100000 in
theorem Qcd {H:Type} {enc:TypeId × Value→H} {w:World} {r:Reach} {b0:Nat} {held:Bool} {v:Value} {d:DataW H} {ps:List MemPlace} (hv:Value.okWide Tryz.prog w r b0 24 v)
  (h:DataW.Trod enc Tryz.prog w 0 (fun _=>true) held 24 v d ps):∃ R C L,IsS w v R C L:=by
 obtain⟨v0,v1,v2,y0,y1,y2,n,rfl,rfl,_,h0,h1,h2⟩:=Joins.open_agg3 Tryz.underlying24 (by kernel_rfl) Qoi hv h
 obtain⟨n0,e0,_,w0⟩:=DataW.trod_int Tryz.underlying5 h0
 obtain⟨n1,e1,_,w1⟩:=DataW.trod_int Tryz.underlying5 h1
 simp only[List.cons.injEq,and_true]at e0 e1
 subst e0 e1
 obtain⟨m0,rfl,l0⟩:=Qj6 w0
 obtain⟨m1,rfl,l1⟩:=Qj6 w1
 rcases open_ints Tryz.underlying22 Tryz.underlying3 (by kernel_rfl) h2 with ⟨hcs,_⟩|⟨x,l,c,zs,hcs,_,hl,hm,hz,_,hcell,hwz⟩
 ·simp only[List.cons.injEq,and_true]at hcs
  subst hcs
  exact⟨m0,m1,[],l0,l1,fun i=>⟨by simp,by simp⟩,_,rfl,⟨rfl,none,0,rfl,V7 _,fun h=>absurd h (Nat.lt_irrefl _)⟩⟩
 ·simp only[List.cons.injEq,and_true]at hcs
  subst hcs
  have hzl:zs.length=c:=by simpa using hz
  have hW:=Qgg hl hzl hcell
  have hlen:(zs.take l).length=l:=by simp[hzl];omega
  exact⟨m0,m1,zs.take l,l0,l1,Qic fun n hn=>Qob (hwz n (List.mem_of_mem_take hn)),_,rfl,by rw[hlen];exact hW⟩


def IsL (w:World) (v:Value) (L:List Int):Prop:=(∀ i,I64 (L.getD i 0))∧WI w v L.length L∧L.length<9223372036854775808
theorem IsL.mono {w w':World} {v:Value} {L:List Int} (h:IsL w v L) (hk:Kp [] w w'):IsL w' v L:=⟨h.1,h.2.1.mono hk,h.2.2⟩

def IsLL (w:World) (v:Value) (X:List (List Int)):Prop:=X.length<9223372036854775808∧∃ ss:List Value,jc w 1 v X.length ss∧∀ i,i<X.length→IsL w (ss.getD i (iv 0)) (X.getD i [])
theorem IsLL.mono {w w':World} {v:Value} {X:List (List Int)} (h:IsLL w v X) (hk:Kp [] w w'):IsLL w' v X:=by
 obtain⟨h0,ss,h1,h2⟩:=h
 exact⟨h0,ss,h1.mono hk,fun i hi=>(h2 i hi).mono hk⟩

theorem Qli {W:World} (h:W.ShapedOpen Tryz.prog):MaxL W :=
 cell_of_shapedOpen_int (g:=0) (t:=3) (zero:=#[.int .i64 0]) h (of_decide_eq_true (by kernel_rfl)) (by kernel_rfl) rfl (by kernel_rfl) (by kernel_rfl) (by kernel_rfl)


theorem Qi0 {ws:List (List UInt8)} {m n m' n':Nat} {t s t' s':Int} {S S':Sm} (h:fC ws m n t s S) (h':fC ws m' n' t' s' S'):m'=m∧n'=n∧t'=t∧s'=s∧S'=S:=by
 have hN:=Q90 (encZ m n t s S)
 rw[← h.w]at hN
 obtain⟨a,b,c,d,e⟩:=Q6k h.d h'.d (h'.num hN)
 exact⟨a.symm,b.symm,c.symm,d.symm,e.symm⟩
theorem Ql8 {x0:List UInt8} {l0:List (List UInt8)} {m n:Nat} {t s:Int} {S:Sm} (h:fC (x0::l0) m n t s S) (hT:gy (bZ (x0::l0))) :
  ∃ (tn sn K:Nat),t=tn∧s=sn∧tn≤m∧tn≤n∧sn≤1099511627776∧8≤K∧K≤3000000000∧bU (encZ m n t s S)=bZ (x0::l0)∧(∀ j,j≤19→Ok K (aJ m n j tn S).1)∧Ok K S∧(bU (encZ m n t s S)).length≤281474976710656 ∧
   ∀ j,j≤19→∀ t' s':Nat,t'≤m→s'<1099511627777→(bU (encZ m n t' s' (aJ m n j tn S).1)).length≤281474976710656:=by
 obtain⟨B,K,hB,hK8,hKe,hK2,hb,hlen⟩:=Ql9 h hT
 obtain⟨⟨a1,a2,a3,a4⟩,hz⟩:=Q0r h.p.2.2
 obtain⟨tn,rfl⟩:=Int.eq_ofNat_of_zero_le a1
 obtain⟨sn,rfl⟩:=Int.eq_ofNat_of_zero_le a3
 have e8:(256:Nat) ^ 8=18446744073709551616:=by decide
 have hm:=h.lm
 have hn:=h.ln
 have hrun:∀ j,j≤19→Ok K (aJ m n j tn S).1:=fun j hj=>Qla hB h.d (by simpa using hz) hb hKe hj
 have hle:∀ j,j≤19→∀ t' s':Nat,t'≤m→s'<1099511627777→(bU (encZ m n t' s' (aJ m n j tn S).1)).length≤281474976710656:=fun j hj t' s' ht' hs'=>by
  have hD1:=(Q9z j tn S h.d oq oq).1
  have h1:=Q81 _ (Q1z (m:=m) (n:=n) (t:=t') (s:=s') hK8 (by rw[e8];omega) (by rw[e8];omega) (by rw[e8];omega) (by rw[e8];omega) (hrun j hj))
  rw[YV hD1]at h1
  rw[YV h.d]at hlen
  exact V0 h1 hlen
 have e0:bU (encZ m n (tn:Int) (sn:Int) S)=bZ (x0::l0):=by rw[Q20, ← h.w]
 exact⟨tn,sn,K,rfl,rfl,by omega,by omega,by omega,hK8,hK2,e0,hrun,hrun 0 oq,by
  rw[e0];exact V0 hT.len dq,hle⟩

theorem Q6v (w:World) (hmax:MaxL w) (htab:iU w) (v0:Value) (R0 C0:Nat) (L0:List Int) (q0 q1 q2 q3:Nat) (raw:List UInt8) (hv0:IsS w v0 R0 C0 L0) (h0:q0<65536) (h1:q1<65536) (h2:q2<65536) (h3:q3<65536) (hraw:raw.length≤1048576) :
  Calls Tryz.prog 10 #[v0,.agg #[.int .u16 (q0:Int),.int .u16 (q1:Int),.int .u16 (q2:Int),.int .u16 (q3:Int)],sv raw] w (aQ fun v w'=>Kp [] w w'∧v=.bool true):=by
 have hmax0:=hmax
 have htab0:=htab
 have hs0:=hv0
 obtain⟨_,_,_,E0,rfl,_⟩:=hv0
 have hr6:R0 % 6<6:=Nat.mod_lt _ dq
 have hc6:C0 % 6<6:=Nat.mod_lt _ dq
 have hq4:q0 % 20<20:=Nat.mod_lt _ dq
 refine YZ [6] [⟨5,0,[],[(1,.seq)]⟩,⟨6,2,[],[]⟩,⟨7,1,[0,1,3,4,5,6,7,8,9,10,11,12,13,14,15,16,17,18,2,19,20],[(2,.seq)]⟩,⟨16,0,[0,2,3,4,5,1,6,7,8,9,10,11,12,14,15,16,17,18,13,19,20,21,22,23,24,25,26,27],[]⟩] [] aA [] Tryz.func10 rfl mixed (by kernel_rfl) Tryz.ntmps10 Tryz.results10 rfl ⟨by simp,by simp⟩ aA ?_
 simp only[toR,inR,cond_true,cond_false,Nat.reduceBEq,toS,Qe,Qx,Qo,Qr,ay,Ql,Qy,aB]
 repeat' first|apply jS|apply jO|refine Q0 ?_|refine QM (h:=fun _=>?_)|apply jN
 rename_i bs0 bq
 apply Zf
 repeat' first|apply jS|apply jO
 refine Q9 trivial rfl rfl rfl (fun w hk _=>Q9a w (hmax0.mono hk) (htab0.mono hk)) fun w v w' _ _ _ hR=>?_
 subst hR
 repeat' first|refine Q0 ?_|apply jN
 refine JX.part (F':=[(7,.bool true),(4,.pointer (some ⟨bq,0,none⟩)),(3,.pointer (some ⟨bs0,0,none⟩)),(2,sv raw)]) (H':=[(bq,.cells #[.int .u16 (q0:Int),.int .u16 (q1:Int),.int .u16 (q2:Int),.int .u16 (q3:Int)] 64),(bs0,.cells #[.int .u8 (R0:Int),.int .u8 (C0:Int),E0] 24)]++[]) aC QF ?_
 apply Zf
 repeat' first|apply jS|refine Qm ?_|apply jO
 refine Qt (A:=[_,_]) (B:=[]) rfl au rfl aF rfl (fun w hk hs=>Qg6 w _ R0 C0 L0 (hs0.mono hk)) fun w v w' _ _ _ hR=>?_
 obtain⟨ma,hma⟩:∃ m,m=szZ L0 (R0 % 6) (C0 % 6):=⟨_,rfl⟩
 have rta:gJ ma:=by rw[hma];exact Qk4 _ oq oq
 have her:ma.r<6:=by rw[hma];exact hr6
 have hec:ma.c<6:=by rw[hma];exact hc6
 have hbd:∀ i j,i<ma.r→j<ma.c→(gE (Ym ma) i j).natAbs<256 ^ 1:=by
  rw[hma]
  exact fun i j hi hj=>Qh3 L0 i j hi hj oq oq
 have hrec:=Q1m rta
 have hD0:=Q9s hrec
 have hOk:=Qh6 (k:=19) dq hrec hbd Qof Qog
 rw[← hma]at hR
 clear hma hr6 hc6
 obtain⟨Na,hNa,Ea,rfl,hOa⟩:=hR
 obtain⟨Aa,ca,rfl⟩:=hOa.form
 refine⟨Na,hNa,?_⟩
 skip
 refine Qt (A:=[_,_]) (B:=Na++[]) rfl au rfl aF rfl (fun w hk hs=>Qmj w _ ma (Ym ma) rta ⟨_,rfl,hOa.rd.at hk hs Qb⟩ (Qhf rta)) fun w v w' _ _ _ hR=>?_
 obtain⟨b',J0,rfl,hN,hJ0⟩:=hR
 refine⟨_,hN,?_⟩
 clear hN hNa
 repeat' first|refine Q0 ?_|apply jN
 refine JX.part (F':=[(8,.pointer (some ⟨b',0,none⟩)),(7,.bool true),(4,.pointer (some ⟨bq,0,none⟩)),(2,sv raw)]) (H':=[(bq,.cells #[.int .u16 (q0:Int),.int .u16 (q1:Int),.int .u16 (q2:Int),.int .u16 (q3:Int)] 64)]++(bW b' J0 ma.r ma.c (0:Nat) (0:Nat)++[])) aC QF ?_
 apply Zf
 clear hOa
 generalize WK ma.r ma.c (Ym ma)=S0 at *
 generalize ma.r=m0 at *
 generalize ma.c=n0 at *
 obtain⟨S1,t1,k1,hrun⟩:∃ S1 t1 k1,aJ m0 n0 (q0 % 20) 0 S0=(S1,t1,k1):=⟨_,_,_,rfl⟩
 obtain⟨hD1,bD,htn⟩:=Q9z (q0 % 20) 0 S0 hD0 (V8 _) (V8 _)
 have hk1:=Q3g (m:=m0) (n:=n0) (q0 % 20) 0 S0
 have hOk1:=hOk (q0 % 20) oq
 have hOkr:∀ j,j≤(aJ m0 n0 (q0 % 20) 0 S0).2.2→Ok 6117 (aJ m0 n0 j 0 S0).1:=fun j hj=>hOk j oq
 rw[hrun]at hD1 bD htn hk1 hOk1
 dsimp only at hD1 bD htn hk1 hOk1
 repeat' first|apply jS|refine Q1 ?_|apply jO
 refine QI (j:=0) rfl rfl rfl rfl oq ?_
 repeat' first|refine Q7 ?_|fail
 refine Q52 (i:=q0) 20 rfl rfl rfl rfl oq ?_
 repeat' first|refine Yb (h:=?_)|fail
 refine XL (A:=[_]) (N:=bW b' J0 m0 n0 (0:Nat) (0:Nat)) (B:=[]) (R:=fun w v w'=>JbR b' J0 m0 n0 (0:Nat) (0:Nat) (t1:Nat) (k1:Nat) S1 w w'∧v=iv (if (Qv S1 t1 m0 n0).2.2=true then 60 else 0)) rfl au rfl aF rfl (fun w _ hs=>by
  have h:=Qmg 6117 w b' J0 m0 n0 0 0 (q0 % 20) S0 hJ0 hD0 (HSub.aV (HSub.skip HSub.dJ) hs) oq oq oq oq (by first|decide|omega) oq hOkr
  rw[hrun,Vq]at h
  exact Zk h fun v w' h=>⟨h.1.1,h⟩) (fun w1 v1 w2 _ _ _ hR=>?_)
 obtain⟨⟨_,J1,hk,hin,hJ1,_⟩,rfl⟩:=hR
 refine⟨bW b' J1 m0 n0 (t1:Nat) (k1:Nat),by rw[hk],hin,?_⟩
 clear hk hin hJ0
 generalize (if (Qv S1 t1 m0 n0).2.2=true then (60:Int) else 0)=e
 repeat' first|apply jN
 refine JX.part (F':=[(8,.pointer (some ⟨b',0,none⟩)),(7,.bool true),(4,.pointer (some ⟨bq,0,none⟩)),(2,sv raw)]) (H':=[(bq,.cells #[.int .u16 (q0:Int),.int .u16 (q1:Int),.int .u16 (q2:Int),.int .u16 (q3:Int)] 64)]++(bW b' J1 m0 n0 (t1:Nat) (k1:Nat)++[])) aC QF ?_
 apply Zf
 repeat' first|apply jS|refine Q1 ?_|apply jO
 refine Q9 au rfl aF rfl (fun w _ hs=>Qcl 6117 w b' J1 m0 n0 (t1:Nat) (k1:Nat) S1 hJ1 hD1 ((HSub.skip HSub.dJ).aV hs) oq oq oq oq (by first|decide|omega) (by first|decide|omega) hOk1) fun w v w' _ _ _ hR=>?_
 subst hR
 obtain⟨code,hcode⟩:∃ l,l=bU (encZ m0 n0 (t1:Nat) (k1:Nat) S1):=⟨_,rfl⟩
 have hsm:SmT code:=by rw[hcode];exact Qkl hD1 her hec oq oq hOk1
 have hpos:=hsm.pos
 have hcl:=hsm.len
 rw[← hcode]
 clear hcode hOk1 hOkr hOk hJ1 hD1 hD0 hrun hbd
 repeat' first|refine Q0 ?_|apply jN
 refine JX.part (F':=[(9,sv code),(7,.bool true),(4,.pointer (some ⟨bq,0,none⟩)),(2,sv raw)]) (H':=[(bq,.cells #[.int .u16 (q0:Int),.int .u16 (q1:Int),.int .u16 (q2:Int),.int .u16 (q3:Int)] 64)]) aC QF ?_
 apply Zf
 repeat' first|apply jS|refine Q1 ?_|apply jO
 refine Qc4 (l:=code) au rfl aF rfl (fun bb cap rest fz hcap hfz=>?_)
 repeat' first|refine Q0 ?_|apply jN
 refine JX.part (F':=[(10,.slice (some ⟨bb,0,none⟩) code.length cap),(9,sv code),(7,.bool true),(4,.pointer (some ⟨bq,0,none⟩)),(2,sv raw)]) (H':=[(bb,.cells (ZR (bf code) rest) 5 fz),(bq,.cells #[.int .u16 (q0:Int),.int .u16 (q1:Int),.int .u16 (q2:Int),.int .u16 (q3:Int)] 64)]) aC (HSub.refl _) ?_
 apply Zf
 repeat' first|apply jS
 refine WG ([(bb,.cells (ZR (bf code) rest) 5 fz),(bq,.cells #[.int .u16 (q0:Int),.int .u16 (q1:Int),.int .u16 (q2:Int),.int .u16 (q3:Int)] 64)]) (HSub.refl _) [] (fun i op=>Qo [] i op) 2 [0,1,2,3,4,5,6,7,8,9,10,11,12] mixed (by kernel_rfl) (by kernel_rfl) ?_
 repeat' first|refine Q1 ?_|fail
 refine QI (j:=1) rfl rfl rfl rfl oq ?_
 repeat' first|refine Q1 ?_|refine Q7 ?_|refine ZC (h:=?_)|refine W6 (h:=?_)|refine Yb (h:=?_)|fail
 refine QI (j:=2) rfl rfl rfl rfl oq ?_
 repeat' first|refine Q7 ?_|fail
 refine Q52 (i:=q2) 13 rfl rfl rfl rfl oq ?_
 skip
 refine YG (l:=[48,49,50,51,52,53,54,55,56,57,32,45,120]) (j:=q2 % 13) rfl rfl rfl rfl (by show q2 % 13<13;omega) ?_
 obtain⟨ix,hix⟩:∃ ix,ix=q1 % code.length:=⟨_,rfl⟩
 have hixl:ix<code.length:=by rw[hix];exact Nat.mod_lt _ hpos
 obtain⟨ch,hch⟩:∃ ch:UInt8,(bf [48,49,50,51,52,53,54,55,56,57,32,45,120]).getD (q2 % 13) 0=ch.toNat:=by
  have h:(bf [48,49,50,51,52,53,54,55,56,57,32,45,120]).getD (q2 % 13) 0<256:=Q4g
  exact⟨UInt8.ofNat _,(by rw[UInt8.toNat_ofNat'];exact(Nat.mod_eq_of_lt h).symm)⟩
 rw[← hix,hch]
 skip
 refine Q0x (j:=ix) rfl aF rfl rfl hixl ?_
 skip
 refine Qnl 0 (o:=0+ix) (u:=ch.toNat) rfl au rfl rfl rfl oq (by rw[Xt];omega) ?_
 repeat' first|apply jN
 refine JX.part (F':=[(10,.slice (some ⟨bb,0,none⟩) code.length cap),(9,sv code),(7,.bool true),(4,.pointer (some ⟨bq,0,none⟩)),(2,sv raw)]) (H':=[(bb,.cells (ZR ((bf code).set (0+ix) ch.toNat) rest) 5 fz),(bq,.cells #[.int .u16 (q0:Int),.int .u16 (q1:Int),.int .u16 (q2:Int),.int .u16 (q3:Int)] 64)]) aC (HSub.refl _) ?_
 apply Zf
 repeat' first|apply jS|refine Q1 ?_|apply jD
 refine QI (j:=1) rfl rfl rfl rfl oq ?_
 repeat' first|refine Q1 ?_|refine Q7 ?_|refine Qd ?_|refine W6 (h:=?_)|refine Yb (h:=?_)|refine Zu (h:=?_)|fail
 obtain⟨px,hpx⟩:∃ px,px=q1 % (code.length+1):=⟨_,rfl⟩
 have hpxl:px≤code.length:=by rw[hpx];exact Nat.le_of_lt_succ (Nat.mod_lt _ (Nat.succ_pos _))
 rw[← hpx]
 refine Qnk (j:=px) rfl aF rfl rfl hpxl ?_
 repeat' first|refine Q1 ?_|fail
 refine WS (l':=[32,48]) rfl aF rfl rfl (by show code.length+2≤_;omega) ?_
 repeat' first|refine Q1 ?_|fail
 refine WS (l':=[32]) rfl aF rfl rfl (by show code.length+1≤_;omega) ?_
 repeat' first|refine Q1 ?_|fail
 refine WS (l:=[32]) rfl aF rfl rfl (by show 1+code.length≤_;omega) ?_
 repeat' first|refine Q1 ?_|fail
 refine Q09 (n:=code.length) (xs:=(bf code).set (0+ix) ch.toNat) (fun u hu=>by
  rcases List.mem_or_eq_of_mem_set hu with h|rfl
  ·obtain⟨y,_,rfl⟩:=List.mem_map.1 h
   exact UInt8.toNat_lt y
  ·exact UInt8.toNat_lt ch) (RdY.blk (by rw[List.length_set,Xt]) hcap) Qb au rfl aF rfl (fun cb hcb=>?_)
 have hcb:=Qmp hcb
 repeat' first|refine Q0 ?_|refine QH (h:=fun _=>?_)|apply jN
 obtain⟨ls,hls⟩:∃ ls:List (List UInt8),ls=[code,cb,code.take px,code++[32,48],code++[32],[32]++code,raw,[]]:=⟨_,rfl⟩
 have hl8:ls.length=8:=by rw[hls];rfl
 have hok:∀ x∈ls,gy x:=fun x hx=>by
  rw[hls]at hx
  simp only[List.mem_cons,List.not_mem_nil,or_false]at hx
  rcases hx with rfl|rfl|rfl|rfl|rfl|rfl|rfl|rfl
  ·exact hsm.ok
  ·rw[hcb];exact hsm.set _ _
  ·exact hsm.take _
  ·have:=hsm.more [] [32,48] dq
   simpa using this
  ·have:=hsm.more [] [32] dq
   simpa using this
  ·have:=hsm.more [32] [] dq
   simpa using this
  ·exact .inl hraw
  ·exact .inl dq
 rename_i bl
 refine JX.part (F':=[(11,.slice (some ⟨bl,0,none⟩) 8 8),(7,.bool true),(4,.pointer (some ⟨bq,0,none⟩))]) (H':=[(bl,.cells ⟨ls.map sv⟩ 9),(bq,.cells #[.int .u16 (q0:Int),.int .u16 (q1:Int),.int .u16 (q2:Int),.int .u16 (q3:Int)] 64)]) aC (by rw[hls];exact HSub.at 0 rfl (HSub.skip (HSub.refl _))) ?_
 apply Zf
 clear hls hcb hch hpx hpxl hix hixl hsm hcl hpos
 repeat' first|apply jS|apply jO|refine Q0 ?_|apply jN
 apply Zf
 repeat' first|apply jB
 refine Qn (ι:=Nat) ⟨fun z=>[(12,nv z),(11,.slice (some ⟨bl,0,none⟩) 8 8),(7,.bool true),(4,.pointer (some ⟨bq,0,none⟩))],fun _=>[(bl,.cells ⟨ls.map sv⟩ 9),(bq,.cells #[.int .u16 (q0:Int),.int .u16 (q1:Int),.int .u16 (q2:Int),.int .u16 (q3:Int)] 64)],
  fun z=>z≤8,fun z=>8-z⟩ 0 (V8 _) aC (HSub.refl _) (fun k hk=>?_)
 dsimp only at hk ⊢
 by_cases hlt:k<8
 ·have hkm:k<ls.length:=by omega
  obtain⟨x,hx⟩:∃ x,x=ls.getD k []:=⟨_,rfl⟩
  have hxT:gy x:=hok x (by rw[hx];exact QV hkm)
  have hcell:(⟨ls.map sv⟩:Array Value)[k]?=some (sv x):=by
   have e:(⟨ls.map sv⟩:Array Value)[k]?=(ls.map sv)[k]?:=by simp
   rw[e,List.getElem?_map,hx,List.getD,List.getElem?_eq_getElem hkm]
   rfl
  obtain⟨x0,l0,rfl,hB⟩:=Qgo x
  have hxl:=hxT.len
  repeat' first|apply jS|apply jO|apply jN|apply jT|refine Q1 ?_|refine ZC (h:=?_)|(refine Qg (h1:=?_) (h2:=?_)<;>intro hc<;>try omega)|apply jK|refine Q5 rfl ?_|apply jB
  refine Zh (o:=0) (j:=k) rfl aF rfl (fun _=>rfl) rfl hlt ?_
  skip
  refine Q7h 0 rfl aF rfl rfl rfl (by rw[Vq,Nat.mul_one];exact hcell) ?_
  skip
  refine Qt (A:=[_,_]) (B:=[]) rfl au rfl aF rfl (fun w hk hs=>Qbj w x0 l0 hB hxl (hmax0.mono hk) (htab0.mono hk)) fun w v w' _ _ _ hR=>?_
  rcases hR with ⟨m,n,t,s,S,b,W,T,ho,rfl,hN,hW⟩|⟨hno,rfl⟩
  ·obtain⟨tn,sn,K,rfl,rfl,bD,htn,hsn,hK8,hK2,henc,hrun,hOk0,hlen0,hlen⟩:=Ql8 ho hxT
   have hm:=ho.lm
   have hn:=ho.ln
   have hD:=ho.d
   refine⟨_,hN,?_⟩
   clear hN
   repeat' first|apply jS|apply jO|apply jN|refine Q1 ?_|refine Q0 ?_|refine Qu (h:=?_)|apply jT
   refine Zh (o:=0) (j:=k) rfl aF rfl (fun _=>rfl) rfl hlt ?_
   skip
   refine Q7h 0 rfl aF rfl rfl rfl (by rw[Vq,Nat.mul_one];exact hcell) ?_
   skip
   refine Qt (A:=[_,_]) (B:=aK b W m n (tn:Nat) (sn:Nat) T++[]) rfl au rfl aF rfl (fun w _ _=>Qbc w x0 l0 hB hxl) fun w v w' _ _ _ hR=>?_
   rcases hR with ⟨m',n',t',s',S',b',J,ho',rfl,hN,hJ⟩|⟨hno,rfl⟩
   ·obtain⟨rfl,rfl,rfl,rfl,rfl⟩:=Qi0 ho ho'
    refine⟨_,hN,?_⟩
    clear hN
    repeat' first|apply jS|apply jO|apply jN|refine Q1 ?_|refine Q0 ?_|refine Qu (h:=?_)|(refine ZP (h1:=?_) (h2:=?_)<;>intro hc<;>try omega)|apply jT
    refine Q1s (by kernel_rfl) rfl aF rfl rfl ?_
    repeat' first|refine Q1 ?_|fail
    refine Q1s (by kernel_rfl) rfl aF rfl rfl ?_
    repeat' first|apply jS|apply jO|apply jN|apply jT|refine Q1 ?_|refine Qq ?_|refine Q7g (h:=?_)|apply jK|refine Q4 rfl ?_
    refine Q1s (by kernel_rfl) rfl aF rfl rfl ?_
    repeat' first|apply jS|apply jN|apply jT|apply jK|refine Q4 rfl ?_
    refine JC.part (F':=[(15,.pointer (some ⟨b',0,none⟩)),(13,.pointer (some ⟨b,0,none⟩)),(12,nv k),(11,.slice (some ⟨bl,0,none⟩) 8 8),(7,.bool true),(4,.pointer (some ⟨bq,0,none⟩))]) (H':=[(bl,.cells ⟨ls.map sv⟩ 9),(bq,.cells #[.int .u16 (q0:Int),.int .u16 (q1:Int),.int .u16 (q2:Int),.int .u16 (q3:Int)] 64)]++(bJ b' J m' n' (tn:Nat) (sn:Nat)++(aK b W m' n' (tn:Nat) (sn:Nat) T++[]))) aC (HSub.refl _) ?_
    have hq20:q3 % 20<20:=Nat.mod_lt _ dq
    obtain⟨kk,hkk⟩:∃ kk,kk=q3 % 20:=⟨_,rfl⟩
    rw[← hkk]at hq20
    obtain⟨kn,hkn⟩:∃ kn,kn=min kk (1099511627776-sn):=⟨_,rfl⟩
    obtain⟨S1,t1,k1,hr1⟩:∃ S1 t1 k1,aJ m' n' kn tn S'=(S1,t1,k1):=⟨_,_,_,rfl⟩
    obtain⟨hD1,eG,eU⟩:=Q9z kn tn S' hD bD htn
    have hk1:=Q3g (m:=m') (n:=n') kn tn S'
    have hOk1:=hrun kn oq
    have hlen1:=hlen kn oq
    have hOkr:∀ j,j≤(aJ m' n' kn tn S').2.2→Ok K (aJ m' n' j tn S').1:=fun j hj=>hrun j oq
    rw[hr1]at hD1 eG eU hk1 hOk1 hlen1
    dsimp only at hD1 eG eU hk1 hOk1 hlen1
    refine XY [(bl,.cells ⟨ls.map sv⟩ 9),(bq,.cells #[.int .u16 (q0:Int),.int .u16 (q1:Int),.int .u16 (q2:Int),.int .u16 (q3:Int)] 64)] HSub.dJ ?_
    repeat' first|refine Q1 ?_|fail
    refine Zh (o:=0) (j:=k) rfl aF rfl (fun _=>rfl) rfl hlt ?_
    skip
    refine Q7h 0 rfl aF rfl rfl rfl (by rw[Vq,Nat.mul_one];exact hcell) ?_
    skip
    refine Q9 au rfl aF rfl (fun w hk hs=>Q23 K w b W m' n' tn sn T S' hW hD ((HSub.skip (HSub.skip (Qf HSub.dJ))).aV hs) hm hn oq oq (htab0.mono hk) hK8 hK2 hlen0 hOk0) fun w v w' _ _ _ hR=>?_
    subst hR
    rw[henc]
    refine Qjj (l:=bZ (x0::l0)) rfl aF rfl rfl ?_
    repeat' first|refine Q1 ?_|fail
    refine QI (j:=3) rfl rfl rfl rfl oq ?_
    repeat' first|refine Q7 ?_|fail
    refine Q52 (i:=q3) 20 rfl rfl rfl rfl oq ?_
    repeat' first|refine Q1 ?_|refine Yb (h:=?_)|fail
    refine QI (j:=3) rfl rfl rfl rfl oq ?_
    repeat' first|refine Q7 ?_|fail
    refine Q52 (i:=q3) 20 rfl rfl rfl rfl oq ?_
    rw[← hkk]
    repeat' first|refine Yb (h:=?_)|fail
    refine Qac (A:=[(bl,.cells ⟨ls.map sv⟩ 9),(bq,.cells #[.int .u16 (q0:Int),.int .u16 (q1:Int),.int .u16 (q2:Int),.int .u16 (q3:Int)] 64)]++bJ b' J m' n' (tn:Nat) (sn:Nat)) (N:=aK b W m' n' (tn:Nat) (sn:Nat) T) (B:=[]) (R:=fun w v w'=>jl b W m' n' (tn:Nat) (sn:Nat) T (t1:Nat) ((sn+k1:Nat):Int) S1 w w'∧v=iv (if (Qv S1 t1 m' n').2.2=true then 60 else 0)) (by rw[Vb]) (HSub.dJ.trans HSub.dJ) rfl aF rfl (fun w _ hs=>by
     have h:=Qg0 K w b W m' n' tn sn kn kk T S' hW hD ((HSub.skip (HSub.skip (Qf HSub.dJ))).aV hs) hm hn bD htn oq oq oq oq oq oq hOkr
     rw[hr1]at h
     exact Zk h fun v w' h=>⟨h.1.1,h⟩) (fun w1 v1 w2 _ _ _ hR=>?_)
    obtain⟨⟨_,W1,T1,hk,hin,hW1,_⟩,rfl⟩:=hR
    refine⟨aK b W1 m' n' (t1:Nat) ((sn+k1:Nat):Int) T1,hk,hin,?_⟩
    clear hk hin
    skip
    refine Qac (A:=[(bl,.cells ⟨ls.map sv⟩ 9),(bq,.cells #[.int .u16 (q0:Int),.int .u16 (q1:Int),.int .u16 (q2:Int),.int .u16 (q3:Int)] 64)]) (N:=bJ b' J m' n' (tn:Nat) (sn:Nat)) (B:=aK b W1 m' n' (t1:Nat) ((sn+k1:Nat):Int) T1++[]) (R:=fun w v w'=>JwR b' J m' n' (tn:Nat) (sn:Nat) (t1:Nat) ((sn+k1:Nat):Int) S1 w w'∧v=iv (if (Qv S1 t1 m' n').2.2=true then 60 else 0)) rfl HSub.dJ rfl aF rfl (fun w _ hs=>by
     have h:=Qgr K w b' J m' n' tn sn kn kk S' hJ hD ((HSub.skip (HSub.skip HSub.dJ)).aV hs) hm hn bD htn oq oq oq oq oq hOkr
     rw[hr1]at h
     exact Zk h fun v w' h=>⟨h.1.1,h⟩) (fun w1 v1 w2 _ _ _ hR=>?_)
    obtain⟨⟨_,J1,hk,hin,hJ1,_⟩,rfl⟩:=hR
    refine⟨bJ b' J1 m' n' (t1:Nat) ((sn+k1:Nat):Int),by rw[hk],hin,?_⟩
    clear hk hin
    generalize (if (Qv S1 t1 m' n').2.2=true then (60:Int) else 0)=e
    repeat' first|refine Q1 ?_|refine Qq ?_|(refine ZP (h1:=?_) (h2:=?_)<;>intro hc<;>try omega)|fail
    refine Q9 au rfl aF rfl (fun w hk hs=>Qgq K w b b' W1 T1 J1 m' n' t1 (sn+k1) S1 hW1 hJ1 hD1 ((HSub.skip (HSub.skip (HSub.refl _))).aV hs) hm hn eG eU oq hK8 hK2 (htab0.mono hk) (hlen1 _ _ eG oq) hOk1) fun w v w' _ _ _ hR=>?_
    subst hR
    repeat' first|apply jO|apply jN|apply jT|refine Q1 ?_|refine Q0 ?_|refine Qd ?_|refine Qq ?_|refine QG ?_|apply jK|refine Q4 rfl ?_|apply jW
    exact Q8 (k+1) aW aW aC HSub.dJ
   ·exact absurd ho (hno _ _ _ _ _)
  ·refine⟨[],New.nil _ _,?_⟩
   repeat' first|apply jS|apply jO|apply jN|refine Q1 ?_|refine Q0 ?_|refine Qu (h:=?_)|apply jT
   refine Zh (o:=0) (j:=k) rfl aF rfl (fun _=>rfl) rfl hlt ?_
   skip
   refine Q7h 0 rfl aF rfl rfl rfl (by rw[Vq,Nat.mul_one];exact hcell) ?_
   skip
   refine Qt (A:=[_,_]) (B:=[]) rfl au rfl aF rfl (fun w _ _=>Qbc w x0 l0 hB hxl) fun w v w' _ _ _ hR=>?_
   rcases hR with ⟨m',n',t',s',S',b',J,ho',rfl,hN,hJ⟩|⟨hno',rfl⟩
   ·exact absurd ho' (hno _ _ _ _ _)
   ·refine⟨[],New.nil _ _,?_⟩
    repeat' first|apply jS|apply jO|apply jN|refine Q1 ?_|refine Q0 ?_|refine Qu (h:=?_)|(refine ZP (h1:=?_) (h2:=?_)<;>intro hc<;>try omega)|apply jT
    refine Q1s (by kernel_rfl) rfl aF rfl rfl ?_
    repeat' first|refine Q1 ?_|fail
    refine Q1s (by kernel_rfl) rfl aF rfl rfl ?_
    repeat' first|apply jS|apply jO|apply jN|apply jT|refine Q1 ?_|refine Qq ?_|refine Q7g (h:=?_)|apply jK|refine Q4 rfl ?_
    refine Q1s (by kernel_rfl) rfl aF rfl rfl ?_
    repeat' first|apply jO|apply jN|apply jT|refine Q1 ?_|refine Q0 ?_|refine Qd ?_|apply jU|apply jE|refine Q5 rfl ?_|apply Qc
    exact Q8 (k+1) aW aW aC (HSub.refl _)
 ·obtain rfl:k=8:=by omega
  repeat' first|apply jS|apply jO|apply jN|apply jT|refine Q1 ?_|refine Q0 ?_|refine ZC (h:=?_)|(refine Qg (h1:=?_) (h2:=?_)<;>intro hc<;>try omega)|apply jU|apply jE|apply jR|refine Q4 rfl ?_|apply Qc
  exact Qj rfl (fun a w' st=>⟨st.kp,rfl⟩)
end Go.Proofs.YtbofgpenopcfaaaGreatDoor

namespace Go.Proofs.YtbofgpenopcfaaaGreatDoor
open Go Go.RowKit Go.ChangeShapes Go.WideShapes Go.ChangeAt

theorem Q7q {P:Program} {w:World} {r:Reach} {base:Nat} {t:TypeId} {v:Value} {n:Nat} {e:TypeId} (ht:P.underlying t=some (.array n e)) (h:Value.okWide P w r base t v):∃ cs,v=.agg cs∧cs.size=P.cellsOf t:=by
 unfold Value.okWide at h
 rw[ht]at h
 cases v<;>simp at h
 exact⟨_,rfl,h.1⟩

end Go.Proofs.YtbofgpenopcfaaaGreatDoor

