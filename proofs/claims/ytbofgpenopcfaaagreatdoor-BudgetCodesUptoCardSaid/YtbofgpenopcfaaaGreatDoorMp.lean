import Derived.Test.YtbofgpenopcfaaaGreatDoorMo
import Derived.Test.YtbofgpenopcfaaaGreatDoorMn
set_option maxHeartbeats 16000000
namespace Go.Proofs.YtbofgpenopcfaaaGreatDoor
open Go Go.RowKit
set_option linter.unusedSimpArgs false
set_option linter.unusedVariables false
set_option linter.unusedSectionVars false

theorem Qd1 (K:Nat) (w:World) (b:Nat) (J:JW) (m n:Nat) (t s:Int) (S:Sm) (hJ:jm J m n S) (hD:Dm m n S) (hs:aG (bJ b J m n t s) w) (hm:m≤200) (hn:n≤200) (ht : -9223372036854775808≤t∧t<9223372036854775808) (hs0 : -9223372036854775808≤s∧s<9223372036854775808) (hK:K≤4000000000) (hb:Ok K S) :
  Calls Tryz.prog 36 #[.pointer (some ⟨b,0,none⟩)] w (aQ fun v w'=>Kp [] w w'∧iK (opnP m n t s S) v):=by
 have hM:=QK hs
 have hJu:∀ c:Cx,fH c J.N (.slice J.u.A (m*m) J.u.c) (m*m) (bP m m (gE S.u)):=fun c=>by
  have h:=(hJ.wu _ _ _ _).rd (c:=c) hJ.o
  exact h
 have hJui:∀ c:Cx,fH c J.N (.slice J.ui.A (m*m) J.ui.c) (m*m) (bP m m (gE S.ui)):=fun c=>by
  have h:=(hJ.wui _ _ _ _).rd (c:=c) hJ.o
  exact h
 have hJv:∀ c:Cx,fH c J.N (.slice J.v.A (n*n) J.v.c) (n*n) (bP n n (gE S.v)):=fun c=>by
  have h:=(hJ.wv _ _ _ _).rd (c:=c) hJ.o
  exact h
 have hJvi:∀ c:Cx,fH c J.N (.slice J.vi.A (n*n) J.vi.c) (n*n) (bP n n (gE S.vi)):=fun c=>by
  have h:=(hJ.wvi _ _ _ _).rd (c:=c) hJ.o
  exact h
 have hres:∀ w',Kp (keys (bJ b J m n t s)) w w'→(∀ p∈bJ b J m n t s,w'.heap[p.1]?=some p.2)→Kp [] w w':=fun w' h1 h2=>Z3 hs h1 h2
 have hmin:(if (n:Int)<(m:Int) then (n:Int) else (m:Int))=((min m n:Nat):Int):=by split<;>omega
 refine Qa [⟨1,2,[],[]⟩,⟨2,2,[],[]⟩] (keys (bJ b J m n t s)) hM (bJ b J m n t s) Tryz.func36 rfl mixed (by kernel_rfl) Tryz.ntmps36 Tryz.results36 rfl hs (fun p hp=>List.mem_map.2 ⟨p,hp,rfl⟩) ?_
 simp only[toS,Qe,Qx,Qo,Qr,ay,Ql,Qy,aB]
 unfold bJ iq
 repeat' first|apply jS|apply jO|apply jD|apply jN|refine Q1 ?_|refine Q2 ?_|refine Q0 ?_|refine Q3 ?_|apply jT
 refine QB 0 rfl rfl rfl rfl rfl rfl rfl rfl ?_
 repeat' first|refine Q1 ?_|refine Q2 ?_|refine Q3 ?_|fail
 refine QB 0 rfl rfl rfl rfl rfl rfl rfl rfl ?_
 skip
 refine Q9 au rfl aF rfl (fun w hk hs=>Qg1 K K w _ _ (gM m m S.u) (gM m m S.ui) (Wo hD.u hm hm) (Wo hD.ui hm hm) oq (Q8l hb.u) (Q8l hb.ui) (Q30 hD.u ((hJu _).at hk hs Qb)) (Q30 hD.ui ((hJui _).at hk hs Qb)) rfl) fun w v w' _ _ _ hR=>?_
 obtain⟨y1,rfl,hy1⟩:=hR
 repeat' first|apply jS|apply jD|apply jN|refine Q1 ?_|refine Q2 ?_|refine Q0 ?_|refine Q3 ?_|apply jT
 refine QB 0 rfl rfl rfl rfl rfl rfl rfl rfl ?_
 repeat' first|refine Q1 ?_|refine Q2 ?_|refine Q3 ?_|fail
 refine QB 0 rfl rfl rfl rfl rfl rfl rfl rfl ?_
 skip
 refine Q9 au rfl aF rfl (fun w hk hs=>Qg1 K K w _ _ (gM n n S.v) (gM n n S.vi) (Wo hD.v hn hn) (Wo hD.vi hn hn) oq (Q8l hb.v) (Q8l hb.vi) (Q30 hD.v ((hJv _).at hk hs Qb)) (Q30 hD.vi ((hJvi _).at hk hs Qb)) rfl) fun w v w' _ _ _ hR=>?_
 obtain⟨y2,rfl,hy2⟩:=hR
 cases y1 with
 | false =>
  repeat' first|apply jS|apply jO|apply jD|apply jN|apply jT|refine Q1 ?_|refine Q0 ?_|refine Qp ?_|refine QG ?_|apply jV|refine Q5 rfl ?_|refine QA ?_|apply jR
  exact Qj rfl (fun a w' st=>⟨hres w' st.kp (fun p hp=>st.hs.blk p (by exact hp)),false,rfl,(⟨fun h=>Bool.noConfusion h,fun h=>hy1.2 h.1⟩:(_↔_)).trans .rfl⟩)
 | true =>
  cases y2 with
  | false =>
   repeat' first|apply jS|apply jO|apply jD|apply jN|apply jT|refine Q1 ?_|refine Q0 ?_|refine Qp ?_|refine Qq ?_|refine QG ?_|apply jV|refine Q5 rfl ?_|refine QA ?_|apply jR
   exact Qj rfl (fun a w' st=>⟨hres w' st.kp (fun p hp=>st.hs.blk p (by exact hp)),false,rfl,(⟨fun h=>Bool.noConfusion h,fun h=>hy2.2 h.2.1⟩:(_↔_)).trans .rfl⟩)
  | true =>
   have hfin:∀ y,gX m n t s S=y→iK (opnP m n t s S) (.bool y):=fun y hy=>⟨y,rfl,by rw[← hy];exact⟨fun h=>⟨hy1.1 rfl,hy2.1 rfl,h⟩,fun h=>h.2.2⟩⟩
   by_cases hr:0≤t∧t≤(min m n:Nat)∧0≤s∧s≤1099511627776
   ·obtain ⟨hr1, hr2, hr3, hr4⟩ := hr
    obtain⟨tn,rfl⟩:=Int.eq_ofNat_of_zero_le hr1
    have hsf:gX m n tn s S=(List.range' 0 (tn-0)).all (dI S m n):=by
     unfold gX
     rw[decide_eq_true ⟨hr1,hr2,hr3,hr4⟩,Bool.true_and]
     rfl
    have bD:tn≤m:=by omega
    have htn:tn≤n:=by omega
    repeat' first|apply jS|apply jO|apply jD|apply jN|apply jT|refine Q1 ?_|refine Q2 ?_|refine Q0 ?_|refine Q7 ?_|refine Q1p (h:=?_)|refine Qq ?_|refine QG ?_|refine Q3 ?_|(refine Qg (h1:=?_) (h2:=?_)<;>intro hc<;>try omega)|(refine QU (h1:=?_) (h2:=?_)<;>intro hc<;>try omega)|apply jK|refine Q4 rfl ?_|apply jB
    all_goals first
     | (exfalso;omega)
     | (exfalso;simp only[hmin]at *;omega)
     | skip
    refine Qn (ι:=Nat) ⟨fun z=>[(5,nv z),(0,.pointer (some ⟨b,0,none⟩))],fun _=>bJ b J m n tn s,
     fun z=>z≤tn∧(List.range' 0 (tn-0)).all (dI S m n)=(List.range' z (tn-z)).all (dI S m n),fun z=>tn-z⟩ 0 ⟨by omega,rfl⟩ aC (HSub.refl _) (fun z hz=>?_)
    obtain⟨hz,hal⟩:=hz
    dsimp only at hz hal ⊢
    by_cases hlt:z<tn
    ·have hzm:z<m:=by omega
     have hzn:z<n:=by omega
     rw[QS hlt,List.all_cons]at hal
     unfold bJ iq
     repeat' first|apply jS|apply jO|apply jN|apply jT|refine Q1 ?_|refine Q2 ?_|refine Q7 ?_|refine Q3 ?_|(refine Qg (h1:=?_) (h2:=?_)<;>intro hc<;>try omega)|apply jK|refine Q5 rfl ?_|apply jB
     refine Q9 au rfl aF rfl (fun w _ hs=>YO w b J m n tn s S z z hJ (by exact HSub.aV (HSub.refl _) hs) oq oq hm hn) fun w v w' _ _ _ hR=>?_
     subst hR
     skip
     refine Q9 au rfl aF rfl (fun w _ _=>Q6u w _ (gE S.d z z) K (QC (QT hb.d _ _)) oq) fun w v w' _ _ _ hR=>?_
     subst hR
     by_cases hpv:0<gE S.d z z
     ·have hsg:(gE S.d z z).sign=1:=Int.sign_eq_one_of_pos hpv
      rw[hsg]
      have hpe:dI S m n z=(List.range' z (m-z)).all (WL S z n):=by unfold dI;rw[decide_eq_true hpv,Bool.true_and]
      rw[hpe]at hal
      repeat' first|apply jS|apply jO|apply jN|apply jT|refine Q1 ?_|refine Q0 ?_|(refine Xo (h1:=?_) (h2:=?_)<;>intro hc<;>try omega)|apply jK|refine Q4 rfl ?_|apply jB
      all_goals first
       | (exfalso;omega)
       | skip
      refine Qn (ι:=Nat) ⟨fun i=>[(6,nv i),(5,nv z),(0,.pointer (some ⟨b,0,none⟩))],fun _=>bJ b J m n tn s,
       fun i=>z≤i∧i≤m∧(List.range' 0 (tn-0)).all (dI S m n)=((List.range' i (m-i)).all (WL S z n) && (List.range' (z+1) (tn-(z+1))).all (dI S m n)),fun i=>m-i⟩ z ⟨by omega,by omega,hal⟩ aC (HSub.refl _) (fun i hi=>?_)
      clear hal
      obtain⟨hzi,him,hal⟩:=hi
      dsimp only at hzi him hal ⊢
      by_cases hlti:i<m
      ·rw[QS hlti,List.all_cons]at hal
       unfold bJ iq
       repeat' first|apply jS|apply jO|apply jN|apply jT|refine Q1 ?_|refine Q2 ?_|refine Q0 ?_|refine Q7 ?_|refine Q3 ?_|(refine Qg (h1:=?_) (h2:=?_)<;>intro hc<;>try omega)|apply jK|refine Q5 rfl ?_|apply jB
       refine Qn (ι:=Nat) ⟨fun k=>[(7,nv k),(6,nv i),(5,nv z),(0,.pointer (some ⟨b,0,none⟩))],fun _=>bJ b J m n tn s,
        fun k=>z≤k∧k≤n∧(List.range' 0 (tn-0)).all (dI S m n)=((List.range' k (n-k)).all (Q7b S z i) && (List.range' (i+1) (m-(i+1))).all (WL S z n) && (List.range' (z+1) (tn-(z+1))).all (dI S m n)),fun k=>n-k⟩ z ⟨by omega,by omega,hal⟩ aC (HSub.refl _) (fun k hk=>?_)
       clear hal
       obtain⟨hzk,hkn,hal⟩:=hk
       dsimp only at hzk hkn hal ⊢
       by_cases hltk:k<n
       ·rw[QS hltk,List.all_cons]at hal
        unfold bJ iq
        repeat' first|apply jS|apply jO|apply jN|apply jT|refine Q1 ?_|refine Q2 ?_|refine Q7 ?_|refine Q3 ?_|(refine Qg (h1:=?_) (h2:=?_)<;>intro hc<;>try omega)|apply jK|refine Q5 rfl ?_|apply jB
        refine Q9 au rfl aF rfl (fun w _ hs=>YO w b J m n tn s S i k hJ (by exact HSub.aV (HSub.refl _) hs) oq oq hm hn) fun w v w' _ _ _ hR=>?_
        subst hR
        repeat' first|refine Q1 ?_|fail
        refine Q9 au rfl aF rfl (fun w _ hs=>YO w b J m n tn s S z z hJ (by exact HSub.aV (HSub.refl _) hs) oq oq hm hn) fun w v w' _ _ _ hR=>?_
        subst hR
        skip
        refine Q9 au rfl aF rfl (fun w _ _=>Q8f w _ _ (gE S.d i k) (gE S.d z z) K (QC (QT hb.d _ _)) (QC (QT hb.d _ _)) oq) fun w v w' _ _ _ hR=>?_
        rw[if_neg (show gE S.d z z≠0 by omega)]at hR
        subst hR
        repeat' first|apply jS|apply jO|apply jN|refine Q1 ?_|refine Q2 ?_|refine Q0 ?_|refine Q7 ?_|refine Qu (h:=?_)|refine Q6 ?_|refine Ya (h:=?_)|refine Qh fun _=>?_|refine Q6 ?_|apply jT
        rename_i b8 b9
        have hrz:gQ (gE S.d i k) (gE S.d z z)=gE S.d i k % gE S.d z z:=by unfold gQ;rw[if_neg oq]
        have hsa:Q7b S z i k=(decide (gE S.d i k % gE S.d z z=0) && (decide (decide (i=z)=decide (k=z)) || decide (gE S.d i k=0))):=by unfold Q7b;rw[hrz]
        rw[hsa]at hal
        have hmg:∀ x:Int,decide (aS x.natAbs≠[])=decide (x≠0):=fun x=>decide_eq_decide.2 (not_congr (bF.trans Int.natAbs_eq_zero))
        rw[hmg]
        by_cases h0:gE S.d i k % gE S.d z z=0
        ·rw[decide_eq_true h0,Bool.true_and]at hal
         rw[decide_eq_false (not_not_intro h0)]
         by_cases e1:i=z
         ·by_cases e2:k=z
          ·have he:decide (i=z)=decide (k=z):=by rw[decide_eq_true e1,decide_eq_true e2]
           rw[decide_eq_true he,Bool.true_or,Bool.true_and]at hal
           repeat' first|apply jO|apply jN|apply jT|refine Q1 ?_|refine Q0 ?_|refine Qd ?_|refine Qq ?_|(refine Zm (h1:=?_) (h2:=?_)<;>intro hc<;>try omega)|refine Q7g (h:=?_)|apply jK|refine Q4 rfl ?_|refine QA ?_|apply jW
           all_goals first
            | (exfalso;omega)
            | exact Q8 (k+1) ⟨by first|omega|(dsimp only;omega),by first|omega|(dsimp only;omega),hal⟩ gY aC (by exact HSub.skip (HSub.skip (HSub.refl _)))
          ·have he:¬(decide (i=z)=decide (k=z)):=by rw[decide_eq_true e1,decide_eq_false e2];decide
           rw[decide_eq_false he,Bool.false_or]at hal
           repeat' first|refine Q1 ?_|(refine Zm (h1:=?_) (h2:=?_)<;>intro hc<;>try omega)|refine Q0b (h:=?_)|fail
           all_goals first
            | (exfalso;omega)
            | skip
           refine Q9 au rfl aF rfl (fun w _ hs=>YO w b J m n tn s S i k hJ (by exact HSub.aV (HSub.skip (HSub.skip (HSub.refl _))) hs) oq oq hm hn) fun w v w' _ _ _ hR=>?_
           subst hR
           skip
           refine Q1r Tryz.underlying75 rfl (show T1 Tryz.prog 9 from inferInstance) rfl aF rfl rfl ?_
           repeat' first|apply jN|refine Qp ?_|refine Qq ?_|refine Ya (h:=?_)|apply jT
           rw[hmg]
           by_cases hx0:gE S.d i k=0
           ·rw[decide_eq_true hx0,Bool.true_and]at hal
            rw[decide_eq_false (not_not_intro hx0)]
            repeat' first|apply jO|apply jN|apply jT|refine Q1 ?_|refine Q0 ?_|refine Qd ?_|apply jK|refine Q4 rfl ?_|apply jW
            exact Q8 (k+1) ⟨by first|omega|(dsimp only;omega),by first|omega|(dsimp only;omega),hal⟩ gY aC (by exact HSub.skip (HSub.skip (HSub.refl _)))
           ·rw[decide_eq_false hx0,Bool.false_and,Bool.false_and]at hal
            rw[decide_eq_true hx0]
            repeat' first|apply jS|apply jO|apply jN|apply jT|refine Q0 ?_|apply jV|apply jR|refine Q5 rfl ?_|apply Qz
            exact Qj rfl (fun a w' st=>⟨hres w' st.kp (fun p hp=>st.hs.blk p (by exact Vc _ (Vc _ hp))),hfin _ (hsf.trans hal)⟩)
         ·by_cases e2:k=z
          ·have he:¬(decide (i=z)=decide (k=z)):=by rw[decide_eq_false e1,decide_eq_true e2];decide
           rw[decide_eq_false he,Bool.false_or]at hal
           repeat' first|refine Q1 ?_|(refine Zm (h1:=?_) (h2:=?_)<;>intro hc<;>try omega)|refine Q0b (h:=?_)|fail
           all_goals first
            | (exfalso;omega)
            | skip
           refine Q9 au rfl aF rfl (fun w _ hs=>YO w b J m n tn s S i k hJ (by exact HSub.aV (HSub.skip (HSub.skip (HSub.refl _))) hs) oq oq hm hn) fun w v w' _ _ _ hR=>?_
           subst hR
           skip
           refine Q1r Tryz.underlying75 rfl (show T1 Tryz.prog 9 from inferInstance) rfl aF rfl rfl ?_
           repeat' first|apply jN|refine Qp ?_|refine Qq ?_|refine Ya (h:=?_)|apply jT
           rw[hmg]
           by_cases hx0:gE S.d i k=0
           ·rw[decide_eq_true hx0,Bool.true_and]at hal
            rw[decide_eq_false (not_not_intro hx0)]
            repeat' first|apply jO|apply jN|apply jT|refine Q1 ?_|refine Q0 ?_|refine Qd ?_|apply jK|refine Q4 rfl ?_|apply jW
            exact Q8 (k+1) ⟨by first|omega|(dsimp only;omega),by first|omega|(dsimp only;omega),hal⟩ gY aC (by exact HSub.skip (HSub.skip (HSub.refl _)))
           ·rw[decide_eq_false hx0,Bool.false_and,Bool.false_and]at hal
            rw[decide_eq_true hx0]
            repeat' first|apply jS|apply jO|apply jN|apply jT|refine Q0 ?_|apply jV|apply jR|refine Q5 rfl ?_|apply Qz
            exact Qj rfl (fun a w' st=>⟨hres w' st.kp (fun p hp=>st.hs.blk p (by exact Vc _ (Vc _ hp))),hfin _ (hsf.trans hal)⟩)
          ·have he:decide (i=z)=decide (k=z):=by rw[decide_eq_false e1,decide_eq_false e2]
           rw[decide_eq_true he,Bool.true_or,Bool.true_and]at hal
           repeat' first|apply jO|apply jN|apply jT|refine Q1 ?_|refine Q0 ?_|refine Qd ?_|refine Qq ?_|(refine Zm (h1:=?_) (h2:=?_)<;>intro hc<;>try omega)|refine Q7g (h:=?_)|apply jK|refine Q4 rfl ?_|refine QA ?_|apply jW
           all_goals first
            | (exfalso;omega)
            | exact Q8 (k+1) ⟨by first|omega|(dsimp only;omega),by first|omega|(dsimp only;omega),hal⟩ gY aC (by exact HSub.skip (HSub.skip (HSub.refl _)))
        ·rw[decide_eq_false h0,Bool.false_and,Bool.false_and,Bool.false_and]at hal
         rw[decide_eq_true h0]
         repeat' first|apply jS|apply jO|apply jN|apply jT|refine Q0 ?_|refine Qp ?_|apply jV|refine Q5 rfl ?_|apply Qz|refine QA ?_|apply jR
         exact Qj rfl (fun a w' st=>⟨hres w' st.kp (fun p hp=>st.hs.blk p (by exact Vc _ (Vc _ hp))),hfin _ (hsf.trans hal)⟩)
       ·rw[show n-k=0 by omega]at hal
        have hal:(List.range' 0 (tn-0)).all (dI S m n)=((List.range' (i+1) (m-(i+1))).all (WL S z n) && (List.range' (z+1) (tn-(z+1))).all (dI S m n)):=by
         rw[hal]
         rfl
        unfold bJ iq
        repeat' first|apply jS|apply jO|apply jN|apply jT|refine Q1 ?_|refine Q2 ?_|refine Q0 ?_|refine Q7 ?_|refine Qd ?_|refine Q3 ?_|(refine Qg (h1:=?_) (h2:=?_)<;>intro hc<;>try omega)|apply jU|apply jE|refine Q4 rfl ?_|apply jW|apply Qc
        exact Q8 (i+1) ⟨by first|omega|(dsimp only;omega),by first|omega|(dsimp only;omega),hal⟩ gY aC (HSub.refl _)
      ·rw[show m-i=0 by omega]at hal
       have hal:(List.range' 0 (tn-0)).all (dI S m n)=(List.range' (z+1) (tn-(z+1))).all (dI S m n):=by
        rw[hal]
        rfl
       unfold bJ iq
       repeat' first|apply jS|apply jO|apply jN|apply jT|refine Q1 ?_|refine Q2 ?_|refine Q0 ?_|refine Q7 ?_|refine Qd ?_|refine Q3 ?_|(refine Qg (h1:=?_) (h2:=?_)<;>intro hc<;>try omega)|apply jU|apply jE|refine Q4 rfl ?_|apply jW|apply Qc
       exact Q8 (z+1) ⟨by first|omega|(dsimp only;omega),hal⟩ gY aC (HSub.refl _)
     ·have hsg:¬0<(gE S.d z z).sign:=fun h=>hpv (Int.sign_pos_iff.1 h)
      have hpe:dI S m n z=false:=by unfold dI;rw[decide_eq_false hpv,Bool.false_and]
      rw[hpe,Bool.false_and]at hal
      repeat' first|apply jS|apply jO|apply jN|apply jT|refine Q0 ?_|(refine Xo (h1:=?_) (h2:=?_)<;>intro hc<;>try omega)|apply jV|apply jR|refine Q5 rfl ?_|apply Qz
      all_goals first
       | (exfalso;omega)
       | skip
      exact Qj rfl (fun a w' st=>⟨hres w' st.kp (fun p hp=>st.hs.blk p (by exact hp)),hfin _ (hsf.trans hal)⟩)
    ·rw[show tn-z=0 by omega]at hal
     have hal:(List.range' 0 (tn-0)).all (dI S m n)=true:=hal
     unfold bJ iq
     repeat' first|apply jS|apply jO|apply jN|apply jT|refine Q1 ?_|refine Q2 ?_|refine Q0 ?_|refine Q7 ?_|refine Q3 ?_|(refine Qg (h1:=?_) (h2:=?_)<;>intro hc<;>try omega)|apply jU|apply jE|apply jR|refine Q4 rfl ?_|apply Qc
     all_goals first
      | (exfalso;omega)
      | skip
     exact Qj rfl (fun a w' st=>⟨hres w' st.kp (fun p hp=>st.hs.blk p (by exact hp)),hfin _ (hsf.trans hal)⟩)
   ·have hsf:gX m n t s S=false:=by
     unfold gX
     rw[decide_eq_false hr,Bool.false_and]
    repeat' first|apply jS|apply jO|apply jD|apply jN|apply jT|refine Q1 ?_|refine Q2 ?_|refine Q0 ?_|refine Q7 ?_|refine Q1p (h:=?_)|refine Qp ?_|refine Qq ?_|refine QG ?_|refine Q3 ?_|(refine Qg (h1:=?_) (h2:=?_)<;>intro hc<;>try omega)|(refine QU (h1:=?_) (h2:=?_)<;>intro hc<;>try omega)|apply jV|refine Q5 rfl ?_|refine QA ?_|apply jR
    all_goals first
     | (exfalso;omega)
     | (exfalso;simp only[hmin]at *;omega)
     | exact Qj rfl (fun a w' st=>⟨hres w' st.kp (fun p hp=>st.hs.blk p (by exact hp)),hfin _ hsf⟩)


theorem fC.len {ws:List (List UInt8)} {m n:Nat} {t s:Int} {S:Sm} (h:fC ws m n t s S):ws.length=4+(m*m+(m*m+(m*n+(n*n+n*n)))):=by
 rw[h.w,List.length_map,YV h.d]
theorem Qao {ws:List (List UInt8)} {k:Nat} (hk:k<ws.length) (hp:pI (ws.getD k [])=none) (m n:Nat) (t s:Int) (S:Sm):¬fC ws m n t s S:=fun h=>by
 have h1:=h.w
 have h2:k<(encZ m n t s S).length:=by rw[h1,List.length_map]at hk;exact hk
 rw[h1,List.getD,List.getElem?_map,List.getElem?_eq_getElem h2]at hp
 have h3:=Qhx (encZ m n t s S)[k]
 rw[show (Option.map tx (some (encZ m n t s S)[k])).getD []=tx (encZ m n t s S)[k] from rfl,h3]at hp
 cases hp
theorem Qer {ws:List (List UInt8)} (hk:ws.length<4) (m n:Nat) (t s:Int) (S:Sm):¬fC ws m n t s S:=fun h=>by
 have:=h.len
 omega
theorem Q9t {l:List (List UInt8)} (h0:l≠[]) (h:∀ y∈l,NoB y):spl (bZ l)=l:=by
 cases l with
 | nil=>exact absurd rfl h0
 | cons x l=>exact Q2n l x h
theorem fC.head {ws:List (List UInt8)} {L:List Int} {m n:Nat} {t s:Int} {S:Sm} (h:fC ws m n t s S) (hN:fV ws L):L.getD 0 0=m∧L.getD 1 0=n∧L.getD 2 0=t∧L.getD 3 0=s:=by
 rw[h.num hN]
 exact⟨rfl,rfl,rfl,rfl⟩
theorem fC.ints {ws:List (List UInt8)} {L:List Int} {m n:Nat} {t s:Int} {S:Sm} (h:fC ws m n t s S) (hN:fV ws L) (i:Nat) (hi:i<4) : -9223372036854775808≤L.getD i 0∧L.getD i 0<9223372036854775808:=by
 obtain⟨h0,h1,h2,h3⟩:=h.head hN
 have hm:=h.lm
 have hn:=h.ln
 have hp:=(Q0r h.p.2.2).1
 rcases(show i=0∨i=1∨i=2∨i=3 by omega)with rfl|rfl|rfl|rfl
 ·rw[h0];omega
 ·rw[h1];omega
 ·rw[h2];omega
 ·rw[h3];omega
theorem Q2b {ws:List (List UInt8)} {L:List Int} (hN:fV ws L) {i:Nat} (hi:i<4) (hI:¬(-9223372036854775808≤L.getD i 0∧L.getD i 0<9223372036854775808)) (m n:Nat) (t s:Int) (S:Sm):¬fC ws m n t s S:=fun h=>hI (h.ints hN i hi)
theorem Qjq {ws:List (List UInt8)} {L:List Int} (hN:fV ws L) (hI:¬(0≤L.getD 0 0∧0≤L.getD 1 0∧L.getD 0 0≤200∧L.getD 1 0≤200)) (m n:Nat) (t s:Int) (S:Sm):¬fC ws m n t s S:=fun h=>hI (by
 obtain⟨h0,h1,h2,h3⟩:=h.head hN
 have hm:=h.lm
 have hn:=h.ln
 rw[h0,h1];omega)
theorem Qjp {ws:List (List UInt8)} {L:List Int} (hN:fV ws L) {m0 n0:Nat} (h0:L.getD 0 0=m0) (h1:L.getD 1 0=n0) (hl:¬ws.length=4+(m0*m0+(m0*m0+(m0*n0+(n0*n0+n0*n0))))) (m n:Nat) (t s:Int) (S:Sm):¬fC ws m n t s S:=fun h=>by
 obtain⟨k0,k1,_,_⟩:=h.head hN
 have e0:m=m0:=by omega
 have e1:n=n0:=by omega
 subst e0 e1
 exact hl h.len
theorem Qan {ws:List (List UInt8)} {m0 n0:Nat} {t0 s0:Int} {S0:Sm} (hN:fV ws (encZ m0 n0 t0 s0 S0)) (hD:Dm m0 n0 S0) (hp:¬opnP m0 n0 t0 s0 S0) (m n:Nat) (t s:Int) (S:Sm):¬fC ws m n t s S:=fun h=>by
 obtain⟨rfl,rfl,rfl,rfl,rfl⟩:=Q6k hD h.d (h.num hN)
 exact hp h.p
theorem Qjo {ws:List (List UInt8)} {m0 n0:Nat} {t0 s0:Int} {S0:Sm} (hN:fV ws (encZ m0 n0 t0 s0 S0)) (hw:¬ws=(encZ m0 n0 t0 s0 S0).map tx) (m n:Nat) (t s:Int) (S:Sm):¬fC ws m n t s S:=fun h=>hw (by rw[h.num hN];exact h.w)

section
variable {c:Cx} {Q:Exit→Act→World→Prop} {m:Mode} {F:ak} {H:aj} {r:List bT} {g:Option (Option Tmp × Bool)} {ns:Bool} {ty t:TypeId} {x y:Operand}
theorem Q3m {b o:Nat} {cs cs':Array Value} {a1 a2 a3:Value} {T:TypeId} {R:aj} [TN c.P t 3] (hg:Qi F g=some true) (hm:m.aO ns r) (hx:ev F x=some (.pointer (some ⟨b,o,none⟩))) (hy:ev F y=some (.agg #[a1,a2,a3]))
  (hH:H=(b,.cells cs T (0,0))::R) (hv:([a1,a2,a3].all (·.oneCell'))=true) (hl:o+3≤cs.size) (hcs:ZB cs o [a1,a2,a3]=cs') (h:JO c Q m.spent r F ((b,.cells cs' T (0,0))::R)):JO c Q m (⟨none,.store t x y,ty,g,.seq,ns⟩::r) F H:=by
 subst hH hcs
 exact Q2r (n:=3) 0 TN.size hg hm hx hy rfl rfl rfl hv hl h
end

theorem Qbc (w:World) (x0:List UInt8) (l0:List (List UInt8)) (hB:∀ y∈x0::l0,NoB y) (hlen:(bZ (x0::l0)).length≤3000000) :
  Calls Tryz.prog 33 #[sv (bZ (x0::l0))] w (aQ fun v w'=>Kp [] w w'∧((∃ m n t s S b J,fC (x0::l0) m n t s S∧v=.tuple #[.pointer (some ⟨b,0,none⟩),iv 0]∧New (bJ b J m n t s) w w'∧jm J m n S)∨((∀ m n t s S,¬fC (x0::l0) m n t s S)∧v=.tuple #[.pointer none,iv 11]))):=by
 obtain⟨K,hKe⟩:∃ K,K=3000000:=⟨_,rfl⟩
 have hsp:=Q2n l0 x0 hB
 obtain⟨ws,hws⟩:∃ ws,ws=x0::l0:=⟨_,rfl⟩
 obtain⟨LL,hLL⟩:∃ LL,LL=ws.length:=⟨_,rfl⟩
 have hln:=Q97 x0 l0
 have hLb:LL≤3000001:=by rw[hLL,hws,List.length_cons];omega
 have hL1:1≤LL:=by rw[hLL,hws,List.length_cons];omega
 have hyl:∀ y∈ws,y.length≤K:=fun y hy=>by rw[hws]at hy;have:=Qb3 hy;omega
 have hws0:bZ ws=bZ (x0::l0):=by rw[hws]
 have hBw:∀ y∈ws,NoB y:=by rw[hws];exact hB
 have hwne:ws≠[]:=by rw[hws];exact List.cons_ne_nil _ _
 obtain⟨s0,hs0⟩:∃ s0,s0=bZ (x0::l0):=⟨_,rfl⟩
 rw[← hs0]at hws0 hlen hsp ⊢
 rw[← hws]at hsp ⊢
 clear hs0
 refine Qa [] [] aA [] Tryz.func33 rfl mixed (by kernel_rfl) Tryz.ntmps33 Tryz.results33 rfl ⟨by simp,by simp⟩ aA ?_
 simp only[toS,Qe,Qx,Qo,Qr,ay,Ql,Qy,aB]
 repeat' first|apply jS|apply jO|apply jN|refine Q1 ?_|refine Q0 ?_|apply jT
 refine Qt (A:=[]) (B:=[]) rfl au rfl aF rfl (fun w hk hs=>Qfq w s0 oq) fun w v4 w' _ _ _ hR=>?_
 obtain⟨Ns,hNs,hOs⟩:=hR
 refine⟨Ns,hNs,?_⟩
 clear hNs
 rw[hsp]at hOs
 have hOs':aH 9 1 Ns v4 LL (ws.map sv):=by rw[hLL];exact hOs
 repeat' first|apply jS|apply jO|apply jN|apply jT|refine Q0 ?_|apply jB
 refine Qn (ι:=Nat × Value × aj × List Int) ⟨fun z=>[(6,nv z.1),(5,z.2.1),(4,v4),(2,.pointer none),(3,iv 0),(0,sv s0)],fun z=>z.2.2.1++(Ns++[]),
  fun z=>z.1≤LL∧aN z.2.2.1 z.2.1 z.1 z.2.2.2∧(ws.take z.1).map pI=z.2.2.2.map some,fun z=>LL-z.1⟩ (0,.slice none 0 0,[],[]) ⟨by omega,aN.nil,rfl⟩ aC (HSub.refl _) (fun z hz=>?_)
 obtain⟨k,v5,Nl,qs⟩:=z
 obtain⟨hk,hO,hqs⟩:=hz
 dsimp only at hk hO hqs ⊢
 obtain⟨A5,c5,rfl⟩:=hO.form
 by_cases hlt:k<LL
 ·have hkm:k<ws.length:=by omega
  have hyk:=hyl (ws.getD k []) (QV hkm)
  repeat' first|apply jS|refine Q1 ?_|apply jO
  refine Xy rfl rfl rfl hOs'.rd ?_
  repeat' first|apply jS|apply jO|apply jN|apply jT|refine Q1 ?_|(refine Qg (h1:=?_) (h2:=?_)<;>intro hc<;>try omega)|apply jK|refine Q5 rfl ?_|apply jB
  refine X5 rfl rfl rfl rfl hOs'.rd hlt ?_
  skip
  refine Q1q (u:=sv (ws.getD k [])) rfl rfl rfl rfl hOs'.rd (Qf HSub.dJ) (by rw[List.getElem?_map,List.getD,List.getElem?_eq_getElem hkm];rfl) ?_
  skip
  refine Q9 au rfl aF rfl (fun w _ _=>Qiq w (ws.getD k []) oq) fun w v w' _ _ _ hR=>?_
  cases hp:pI (ws.getD k [])with
  | none =>
   obtain⟨zz,hz⟩:=Q3s hp
   rw[hz]at hR
   subst hR
   repeat' first|apply jS|apply jO|apply jN|apply jT|refine Q1 ?_|refine Q0 ?_|refine QG ?_|refine Qu (h:=?_)|refine Q6 ?_|refine Qh fun _=>?_|refine Q6 ?_|apply jV|apply jR|refine Q5 rfl ?_|apply Qz
   exact QN rfl rfl (fun a w' st=>⟨st.kp,.inr ⟨Qao hkm hp,rfl⟩⟩)
  | some a =>
   rw[Q3r hp]at hR
   subst hR
   repeat' first|apply jS|apply jO|apply jN|apply jT|refine Q1 ?_|refine Q0 ?_|refine Qm ?_|refine QG ?_|refine Qu (h:=?_)|refine Q6 ?_|refine Qh fun _=>?_|refine Q6 ?_|apply jK|refine Q4 rfl ?_
   refine Wy (sz:=2) (vs:=[Wv a]) (cl:=[.bool (wz a).1,sv (wz a).2]) rfl rfl (by first|rfl|trivial|exact⟨rfl,rfl⟩) rfl rfl (fun v hv=>by
    cases List.mem_singleton.1 hv;rfl) rfl dq dq (fun b38=>?_)
   have h1:=Q2t b38 a
   skip
   refine Zi (A:=[_,_]) (N:=Nl) (B:=Ns++[]) hO h1.rd Qb rfl au rfl rfl rfl rfl oq (fun v' N' aX=>?_)
   obtain⟨A5,c5,rfl⟩:=aX.form
   repeat' first|apply jO|apply jN|apply jT|refine Q1 ?_|refine Q0 ?_|refine Qd ?_|apply jW
   exact Q8 (k+1,.slice A5 (k+1) c5,N',qs++[a]) ⟨by dsimp only;omega,aX,by
    dsimp only
    rw[List.take_add_one,Vj,hqs,Vj]
    congr 1
    rw[List.getElem?_eq_getElem hkm]
    show [pI ws[k]]=[some a]
    rw[← hp,List.getD,List.getElem?_eq_getElem hkm]
    rfl⟩ aW aC (HSub.skip (HSub.skip (HSub.refl _)))
 ·repeat' first|apply jS|refine Q1 ?_|apply jO
  refine Xy rfl rfl rfl hOs'.rd ?_
  obtain rfl:k=LL:=by omega
  rw[Vd oq]at hqs
  obtain⟨L,hLq⟩:∃ L,L=qs:=⟨_,rfl⟩
  rw[← hLq]at hO hqs
  have hN:fV ws L:=hqs
  have hLl:L.length=k:=by have:=hN.len;omega
  have hbd:∀ a∈L,a.natAbs<256 ^ K:=Qeo hN hyl
  clear hOs hOs' hLq hqs
  obtain⟨bl,hA4⟩:∃ bl,A5=some ⟨bl,0,none⟩:=by
   obtain⟨_,⟨_,h2,_⟩|⟨b,cap,cur,h1,_⟩⟩:=hO
   ·omega
   ·exact⟨b,by cases h1;rfl⟩
  subst hA4
  have hRl:∀ c:Cx,fH c Nl (.slice (some ⟨bl,0,none⟩) k c5) k L:=fun c=>hO.rd
  have hkc:k≤c5:=by
   obtain⟨_,⟨_,h2,_⟩|⟨b,cap,cur,h1,_,h3,_⟩⟩:=hO
   ·omega
   ·cases h1;exact h3
  repeat' first|apply jS|apply jO|apply jN|apply jT|refine Q0 ?_|(refine Qg (h1:=?_) (h2:=?_)<;>intro hc<;>try omega)|refine Qh fun _=>?_|apply jU|apply jE|refine Q4 rfl ?_|apply jB|apply Qc
  rename_i b9
  refine Qn (ι:=Nat) ⟨fun z=>[(10,nv z),(9,.pointer (some ⟨b9,0,none⟩)),(5,.slice (some ⟨bl,0,none⟩) k c5),(2,.pointer none),(3,iv 0),(0,sv s0)],fun z=>(b9,.cells (hdK (L.getD 0 0) (L.getD 1 0) (L.getD 2 0) (L.getD 3 0) z) 114)::(Nl++[]),
   fun z=>z≤4∧z≤k∧∀ i,i<z → -9223372036854775808≤L.getD i 0∧L.getD i 0<9223372036854775808,fun z=>4-z⟩ 0 ⟨by omega,by omega,fun i hi=>by omega⟩ aC (HSub.at 0 rfl (by rw[Vh];exact HSub.dJ)) (fun z hz=>?_)
  obtain⟨hz,hzk,hzI⟩:=hz
  dsimp only at hz hzk hzI ⊢
  by_cases hlt4:z<4
  ·by_cases h4:z<k
   ·rcases(show z=0∨z=1∨z=2∨z=3 by omega)with rfl|rfl|rfl|rfl
    ·repeat' first|apply jS|apply jO|apply jN|apply jT|refine Q1 ?_|refine QY (h:=?_)|refine Y4 (h:=?_)|refine Zt (h:=?_)|(refine Qg (h1:=?_) (h2:=?_)<;>intro hc<;>try omega)|(refine Zs (h1:=?_) (h2:=?_)<;>intro hc<;>try omega)|apply jK|refine Q5 rfl ?_|refine Q4 rfl ?_|apply jB
     all_goals first
      | (exfalso;omega)
      | skip
     refine Q9 au rfl aF rfl (fun w _ _=>Qbm w _ (L.getD 0 0) K (QC (hbd _ (QV oq))) oq) fun w v w' _ _ _ hR=>?_
     unfold gG at hR
     by_cases hI : -9223372036854775808≤L.getD 0 0∧L.getD 0 0<9223372036854775808
     ·rw[if_pos hI]at hR
      subst hR
      repeat' first|apply jS|apply jO|apply jN|apply jT|refine Q1 ?_|refine Q0 ?_|refine Qd ?_|refine QG ?_|refine Qu (h:=?_)|refine QI (h:=?_)|refine QO ?_|apply jK|refine Q4 rfl ?_|apply jW
      exact Q8 1 ⟨by first|omega|(dsimp only;omega),by first|omega|(dsimp only;omega),fun i hi=>by
       rcases(show i=0∨i<0 by first|omega|(dsimp only at hi;omega))with rfl|h
       ·exact hI
       ·exact hzI i h⟩ gY aC (HSub.refl _)
     ·rw[if_neg hI]at hR
      subst hR
      repeat' first|apply jS|apply jO|apply jN|apply jT|refine Q1 ?_|refine Q0 ?_|refine QG ?_|refine Qu (h:=?_)|apply jV|apply jR|refine Q5 rfl ?_|apply Qz
      exact QN rfl rfl (fun a w' st=>⟨st.kp,.inr ⟨Q2b hN oq hI,rfl⟩⟩)
    ·repeat' first|apply jS|apply jO|apply jN|apply jT|refine Q1 ?_|refine QY (h:=?_)|refine Y4 (h:=?_)|refine Zt (h:=?_)|(refine Qg (h1:=?_) (h2:=?_)<;>intro hc<;>try omega)|(refine Zs (h1:=?_) (h2:=?_)<;>intro hc<;>try omega)|apply jK|refine Q5 rfl ?_|refine Q4 rfl ?_|apply jB
     all_goals first
      | (exfalso;omega)
      | skip
     refine Q9 au rfl aF rfl (fun w _ _=>Qbm w _ (L.getD 1 0) K (QC (hbd _ (QV oq))) oq) fun w v w' _ _ _ hR=>?_
     unfold gG at hR
     by_cases hI : -9223372036854775808≤L.getD 1 0∧L.getD 1 0<9223372036854775808
     ·rw[if_pos hI]at hR
      subst hR
      repeat' first|apply jS|apply jO|apply jN|apply jT|refine Q1 ?_|refine Q0 ?_|refine Qd ?_|refine QG ?_|refine Qu (h:=?_)|refine QI (h:=?_)|refine QO ?_|apply jK|refine Q4 rfl ?_|apply jW
      exact Q8 2 ⟨by first|omega|(dsimp only;omega),by first|omega|(dsimp only;omega),fun i hi=>by
       rcases(show i=1∨i<1 by first|omega|(dsimp only at hi;omega))with rfl|h
       ·exact hI
       ·exact hzI i h⟩ gY aC (HSub.refl _)
     ·rw[if_neg hI]at hR
      subst hR
      repeat' first|apply jS|apply jO|apply jN|apply jT|refine Q1 ?_|refine Q0 ?_|refine QG ?_|refine Qu (h:=?_)|apply jV|apply jR|refine Q5 rfl ?_|apply Qz
      exact QN rfl rfl (fun a w' st=>⟨st.kp,.inr ⟨Q2b hN oq hI,rfl⟩⟩)
    ·repeat' first|apply jS|apply jO|apply jN|apply jT|refine Q1 ?_|refine QY (h:=?_)|refine Y4 (h:=?_)|refine Zt (h:=?_)|(refine Qg (h1:=?_) (h2:=?_)<;>intro hc<;>try omega)|(refine Zs (h1:=?_) (h2:=?_)<;>intro hc<;>try omega)|apply jK|refine Q5 rfl ?_|refine Q4 rfl ?_|apply jB
     all_goals first
      | (exfalso;omega)
      | skip
     refine Q9 au rfl aF rfl (fun w _ _=>Qbm w _ (L.getD 2 0) K (QC (hbd _ (QV oq))) oq) fun w v w' _ _ _ hR=>?_
     unfold gG at hR
     by_cases hI : -9223372036854775808≤L.getD 2 0∧L.getD 2 0<9223372036854775808
     ·rw[if_pos hI]at hR
      subst hR
      repeat' first|apply jS|apply jO|apply jN|apply jT|refine Q1 ?_|refine Q0 ?_|refine Qd ?_|refine QG ?_|refine Qu (h:=?_)|refine QI (h:=?_)|refine QO ?_|apply jK|refine Q4 rfl ?_|apply jW
      exact Q8 3 ⟨by first|omega|(dsimp only;omega),by first|omega|(dsimp only;omega),fun i hi=>by
       rcases(show i=2∨i<2 by first|omega|(dsimp only at hi;omega))with rfl|h
       ·exact hI
       ·exact hzI i h⟩ gY aC (HSub.refl _)
     ·rw[if_neg hI]at hR
      subst hR
      repeat' first|apply jS|apply jO|apply jN|apply jT|refine Q1 ?_|refine Q0 ?_|refine QG ?_|refine Qu (h:=?_)|apply jV|apply jR|refine Q5 rfl ?_|apply Qz
      exact QN rfl rfl (fun a w' st=>⟨st.kp,.inr ⟨Q2b hN oq hI,rfl⟩⟩)
    ·repeat' first|apply jS|apply jO|apply jN|apply jT|refine Q1 ?_|refine QY (h:=?_)|refine Y4 (h:=?_)|refine Zt (h:=?_)|(refine Qg (h1:=?_) (h2:=?_)<;>intro hc<;>try omega)|(refine Zs (h1:=?_) (h2:=?_)<;>intro hc<;>try omega)|apply jK|refine Q5 rfl ?_|refine Q4 rfl ?_|apply jB
     all_goals first
      | (exfalso;omega)
      | skip
     refine Q9 au rfl aF rfl (fun w _ _=>Qbm w _ (L.getD 3 0) K (QC (hbd _ (QV oq))) oq) fun w v w' _ _ _ hR=>?_
     unfold gG at hR
     by_cases hI : -9223372036854775808≤L.getD 3 0∧L.getD 3 0<9223372036854775808
     ·rw[if_pos hI]at hR
      subst hR
      repeat' first|apply jS|apply jO|apply jN|apply jT|refine Q1 ?_|refine Q0 ?_|refine Qd ?_|refine QG ?_|refine Qu (h:=?_)|refine QI (h:=?_)|refine QO ?_|apply jK|refine Q4 rfl ?_|apply jW
      exact Q8 4 ⟨by first|omega|(dsimp only;omega),by first|omega|(dsimp only;omega),fun i hi=>by
       rcases(show i=3∨i<3 by first|omega|(dsimp only at hi;omega))with rfl|h
       ·exact hI
       ·exact hzI i h⟩ gY aC (HSub.refl _)
     ·rw[if_neg hI]at hR
      subst hR
      repeat' first|apply jS|apply jO|apply jN|apply jT|refine Q1 ?_|refine Q0 ?_|refine QG ?_|refine Qu (h:=?_)|apply jV|apply jR|refine Q5 rfl ?_|apply Qz
      exact QN rfl rfl (fun a w' st=>⟨st.kp,.inr ⟨Q2b hN oq hI,rfl⟩⟩)
   ·repeat' first|apply jS|apply jO|apply jN|apply jT|refine Q1 ?_|refine Q0 ?_|refine Zt (h:=?_)|(refine Qg (h1:=?_) (h2:=?_)<;>intro hc<;>try omega)|(refine Zs (h1:=?_) (h2:=?_)<;>intro hc<;>try omega)|apply jV|apply jK|apply jR|refine Q5 rfl ?_|apply jB|apply Qz
    all_goals first
     | (exfalso;omega)
     | exact QN rfl rfl (fun a w' st=>⟨st.kp,.inr ⟨Qer oq,rfl⟩⟩)
  ·obtain rfl:z=4:=by omega
   have hI0:=hzI 0 oq
   have hI1:=hzI 1 oq
   have hI2:=hzI 2 oq
   have hI3:=hzI 3 oq
   clear hlt4 hlt hzI
   by_cases hr:0≤L.getD 0 0∧0≤L.getD 1 0∧L.getD 0 0≤200∧L.getD 1 0≤200
   ·obtain⟨r0,r1,r2,r3⟩:=hr
    obtain⟨m,hm0⟩:=Int.eq_ofNat_of_zero_le r0
    obtain⟨n,hn0⟩:=Int.eq_ofNat_of_zero_le r1
    have hm:m≤200:=by omega
    have hn:n≤200:=by omega
    have hmm:m*m≤40000:=Vn hm hm
    have hmn:m*n≤40000:=Vn hm hn
    have hnn:n*n≤40000:=Vn hn hn
    have hmI:2*(m:Int)*(m:Int)=((2*(m*m):Nat):Int):=by rw[Int.mul_assoc,Int.natCast_mul,Int.natCast_mul];rfl
    have hnI:2*(n:Int)*(n:Int)=((2*(n*n):Nat):Int):=by rw[Int.mul_assoc,Int.natCast_mul,Int.natCast_mul];rfl
    rw[hm0,hn0]
    clear hI0 hI1
    by_cases hl:k=4+(m*m+(m*m+(m*n+(n*n+n*n))))
    ·repeat' first|apply jS|apply jO|apply jN|apply jT|refine Q1 ?_|(refine Qg (h1:=?_) (h2:=?_)<;>intro hc<;>try omega)|apply jU|apply jE|refine Q4 rfl ?_|apply Qc
     refine QI (j:=0) rfl rfl rfl rfl oq ?_
     repeat' first|apply jS|apply jO|apply jN|refine Q0 ?_|refine Q7 ?_|apply jT
     refine QI (j:=1) rfl rfl rfl rfl oq ?_
     repeat' first|apply jS|apply jO|apply jN|apply jT|refine Q1 ?_|refine Q0 ?_|refine Q7 ?_|refine Zt (h:=?_)|refine Z1 (h:=?_)|refine Q61 (h:=?_)|refine Qc8 (h:=?_)|refine Qq ?_|(refine Qg (h1:=?_) (h2:=?_)<;>intro hc<;>try omega)|(refine QU (h1:=?_) (h2:=?_)<;>intro hc<;>try omega)|(refine ZP (h1:=?_) (h2:=?_)<;>intro hc<;>try omega)|apply jK|refine Q4 rfl ?_
     all_goals first
      | (exfalso;omega)
      | skip
     obtain⟨t,s,S,hLe,hD⟩:=Qfb (hLl.trans hl) hm0 hn0
     have hbK:Ok K S:=Q3x (by rw[← hLe];exact hbd)
     have e2:L.getD 2 0=t:=by rw[hLe];rfl
     have e3:L.getD 3 0=s:=by rw[hLe];rfl
     rw[e2]at hI2 ⊢
     rw[e3]at hI3 ⊢
     refine QI (j:=2) rfl rfl rfl rfl oq ?_
     repeat' first|refine Q7 ?_|fail
     refine QI (j:=3) rfl rfl rfl rfl oq ?_
     repeat' first|refine Q7 ?_|fail
     refine Zw (l:=[(5,iv t),(6,iv s)]) (cs:=#[iv 0,iv 0,.slice none 0 0,iv 0,iv 0,.slice none 0 0,iv 0,iv 0,.slice none 0 0,iv 0,iv 0,.slice none 0 0,iv 0,iv 0,.slice none 0 0,iv t,iv s]) rfl rfl rfl (by kernel_rfl) ?_
     refine QM rfl rfl rfl rfl (fun bj=>?_)
     repeat' first|apply jS|apply jO|apply jN|refine Q1 ?_|refine Q0 ?_|apply jT
     refine Y9 (b:=bl) (o:=0) (l:=4) (h':=k) rfl rfl rfl (fun _=>rfl) rfl rfl (.inl rfl) rfl rfl (.inr ⟨rfl,rfl⟩) oq oq hkc (fun B0 hB0=>?_)
     have hS0:dO bl 4 (k-4) (c5-4) B0:=⟨fun h=>by have:=hB0 oq;simpa using this,by omega⟩
     clear hB0
     obtain⟨d0,hd0⟩:∃ d0,d0=c5-4:=⟨_,rfl⟩
     rw[← hd0]at hS0 ⊢
     repeat' first|apply jS|apply jO|apply jN|refine Q1 ?_|refine Q0 ?_|refine Z1 (h:=?_)|apply jT
     refine Y9 (b:=bl) (o:=4*2) (l:=0) (h':=m*m) rfl rfl rfl hS0.adr rfl rfl (.inr ⟨rfl,rfl⟩) rfl rfl (.inl rfl) oq oq hS0.cap (fun E1 hA=>?_)
     have hE1:dO bl 4 (m*m) (d0-0) E1:=⟨fun h=>by have:=hA h;simpa using this,by have:=hS0.cap;omega⟩
     clear hA
     obtain⟨e1,he1⟩:∃ e,e=d0-0:=⟨_,rfl⟩
     rw[← he1]
     refine Zw (l:=[(0,nv m),(1,nv m),(2,.slice E1 (m*m) e1)]) (cs:=#[nv m,nv m,.slice E1 (m*m) e1]) rfl rfl rfl rfl ?_
     repeat' first|refine Q2 ?_|refine Q3 ?_|fail
     refine Q3m (cs':=#[nv m,nv m,.slice E1 (m*m) e1,iv 0,iv 0,.slice none 0 0,iv 0,iv 0,.slice none 0 0,iv 0,iv 0,.slice none 0 0,iv 0,iv 0,.slice none 0 0,iv t,iv s]) rfl au rfl rfl rfl rfl (by show _≤17;omega) rfl ?_
     repeat' first|apply jS|apply jO|apply jN|refine Q1 ?_|refine Z1 (h:=?_)|refine Qc8 (h:=?_)|apply jT
     try rw[hmI]
     refine Y9 (b:=bl) (o:=4*2) (l:=m*m) (h':=2*(m*m)) rfl rfl rfl hS0.adr rfl rfl (.inl rfl) rfl rfl (.inl rfl) oq oq hS0.cap (fun E2 hA=>?_)
     have hln:2*(m*m)-m*m=m*m:=by omega
     rw[hln]
     have hE2:dO bl (4+m*m) (m*m) (d0-m*m) E2:=⟨fun h=>by have:=hA oq;rw[this,Vl],by have:=hS0.cap;omega⟩
     clear hA hln
     obtain⟨e2,he2⟩:∃ e,e=d0-m*m:=⟨_,rfl⟩
     rw[← he2]
     refine Zw (l:=[(0,nv m),(1,nv m),(2,.slice E2 (m*m) e2)]) (cs:=#[nv m,nv m,.slice E2 (m*m) e2]) rfl rfl rfl rfl ?_
     repeat' first|refine Q2 ?_|refine Q3 ?_|fail
     refine Q3m (cs':=#[nv m,nv m,.slice E1 (m*m) e1,nv m,nv m,.slice E2 (m*m) e2,iv 0,iv 0,.slice none 0 0,iv 0,iv 0,.slice none 0 0,iv 0,iv 0,.slice none 0 0,iv t,iv s]) rfl au rfl rfl rfl rfl (by show _≤17;omega) rfl ?_
     repeat' first|apply jS|apply jO|apply jN|refine Q1 ?_|refine Qc8 (h:=?_)|apply jT
     try rw[hmI]
     refine Y9 (b:=bl) (o:=4*2) (l:=2*(m*m)) (h':=k-4) rfl rfl rfl hS0.adr rfl rfl (.inl rfl) rfl rfl (.inr ⟨rfl,rfl⟩) oq oq hS0.cap (fun B1 hA=>?_)
     obtain⟨d1,hd1⟩:∃ d,d=d0-2*(m*m):=⟨_,rfl⟩
     rw[← hd1]
     have hS1:dO bl (4+m*m+m*m) (k-4-2*(m*m)) d1 B1:=⟨fun h=>by have:=hA oq;rw[this,show (4+m*m+m*m)*2=4*2+2*(m*m)*2 by omega],by have:=hS0.cap;omega⟩
     clear hA
     repeat' first|apply jS|apply jO|apply jN|refine Q1 ?_|refine Q0 ?_|refine Z1 (h:=?_)|apply jT
     refine Y9 (b:=bl) (o:=(4+m*m+m*m)*2) (l:=0) (h':=m*n) rfl rfl rfl hS1.adr rfl rfl (.inr ⟨rfl,rfl⟩) rfl rfl (.inl rfl) oq oq hS1.cap (fun E3 hA=>?_)
     have hE3:dO bl (4+m*m+m*m) (m*n) (d1-0) E3:=⟨fun h=>by have:=hA h;simpa using this,by have:=hS1.cap;omega⟩
     clear hA
     obtain⟨e3,he3⟩:∃ e,e=d1-0:=⟨_,rfl⟩
     rw[← he3]
     refine Zw (l:=[(0,nv m),(1,nv n),(2,.slice E3 (m*n) e3)]) (cs:=#[nv m,nv n,.slice E3 (m*n) e3]) rfl rfl rfl rfl ?_
     repeat' first|refine Q2 ?_|refine Q3 ?_|fail
     refine Q3m (cs':=#[nv m,nv m,.slice E1 (m*m) e1,nv m,nv m,.slice E2 (m*m) e2,nv m,nv n,.slice E3 (m*n) e3,iv 0,iv 0,.slice none 0 0,iv 0,iv 0,.slice none 0 0,iv t,iv s]) rfl au rfl rfl rfl rfl (by show _≤17;omega) rfl ?_
     repeat' first|apply jS|apply jO|apply jN|refine Q1 ?_|refine Z1 (h:=?_)|apply jT
     refine Y9 (b:=bl) (o:=(4+m*m+m*m)*2) (l:=m*n) (h':=k-4-2*(m*m)) rfl rfl rfl hS1.adr rfl rfl (.inl rfl) rfl rfl (.inr ⟨rfl,rfl⟩) oq oq hS1.cap (fun B2 hA=>?_)
     obtain⟨d2,hd2⟩:∃ d,d=d1-m*n:=⟨_,rfl⟩
     rw[← hd2]
     have hS2:dO bl (4+m*m+m*m+m*n) (k-4-2*(m*m)-m*n) d2 B2:=⟨fun h=>by have:=hA oq;rw[this,Vl _ (m*n)],by have:=hS1.cap;omega⟩
     clear hA
     repeat' first|apply jS|apply jO|apply jN|refine Q1 ?_|refine Q0 ?_|refine Z1 (h:=?_)|apply jT
     refine Y9 (b:=bl) (o:=(4+m*m+m*m+m*n)*2) (l:=0) (h':=n*n) rfl rfl rfl hS2.adr rfl rfl (.inr ⟨rfl,rfl⟩) rfl rfl (.inl rfl) oq oq hS2.cap (fun E4 hA=>?_)
     have hE4:dO bl (4+m*m+m*m+m*n) (n*n) (d2-0) E4:=⟨fun h=>by have:=hA h;simpa using this,by have:=hS2.cap;omega⟩
     clear hA
     obtain⟨e4,he4⟩:∃ e,e=d2-0:=⟨_,rfl⟩
     rw[← he4]
     refine Zw (l:=[(0,nv n),(1,nv n),(2,.slice E4 (n*n) e4)]) (cs:=#[nv n,nv n,.slice E4 (n*n) e4]) rfl rfl rfl rfl ?_
     repeat' first|refine Q2 ?_|refine Q3 ?_|fail
     refine Q3m (cs':=#[nv m,nv m,.slice E1 (m*m) e1,nv m,nv m,.slice E2 (m*m) e2,nv m,nv n,.slice E3 (m*n) e3,nv n,nv n,.slice E4 (n*n) e4,iv 0,iv 0,.slice none 0 0,iv t,iv s]) rfl au rfl rfl rfl rfl (by show _≤17;omega) rfl ?_
     repeat' first|apply jS|apply jO|apply jN|refine Q1 ?_|refine Z1 (h:=?_)|apply jT
     refine Y9 (b:=bl) (o:=(4+m*m+m*m+m*n)*2) (l:=n*n) (h':=k-4-2*(m*m)-m*n) rfl rfl rfl hS2.adr rfl rfl (.inl rfl) rfl rfl (.inr ⟨rfl,rfl⟩) oq oq hS2.cap (fun E5 hA=>?_)
     have hln:k-4-2*(m*m)-m*n-n*n=n*n:=by omega
     rw[hln]
     have hE5:dO bl (4+m*m+m*m+m*n+n*n) (n*n) (d2-n*n) E5:=⟨fun h=>by have:=hA oq;rw[this,Vl _ (n*n)],by have:=hS2.cap;omega⟩
     clear hA hln
     obtain⟨e5,he5⟩:∃ e,e=d2-n*n:=⟨_,rfl⟩
     rw[← he5]
     refine Zw (l:=[(0,nv n),(1,nv n),(2,.slice E5 (n*n) e5)]) (cs:=#[nv n,nv n,.slice E5 (n*n) e5]) rfl rfl rfl rfl ?_
     repeat' first|refine Q2 ?_|refine Q3 ?_|fail
     refine Q3m (cs':=#[nv m,nv m,.slice E1 (m*m) e1,nv m,nv m,.slice E2 (m*m) e2,nv m,nv n,.slice E3 (m*n) e3,nv n,nv n,.slice E4 (n*n) e4,nv n,nv n,.slice E5 (n*n) e5,iv t,iv s]) rfl au rfl rfl rfl rfl (by show _≤17;omega) rfl ?_
     repeat' first|apply jS|apply jO|apply jN|refine Q1 ?_|apply jT
     obtain⟨J,hJe⟩:∃ J:JW,J=jOf bl k c5 m n [(m:Int),(n:Int),t,s] Nl E1 E2 E3 E4 E5 e1 e2 e3 e4 e5:=⟨_,rfl⟩
     have hW:jm J m n S:=by
      rw[hJe]
      exact Qo8 hD rfl (by rw[hLe]at hO;exact hO) (by rw[he1];exact hE1) (by rw[he2];exact hE2) (by rw[he3];exact hE3) (by rw[he4];exact hE4) (by rw[he5];exact hE5)
     have ej:∀ X:aj,HSub (bJ bj J m n t s) ((bj,.cells #[nv m,nv m,.slice E1 (m*m) e1,nv m,nv m,.slice E2 (m*m) e2,nv m,nv n,.slice E3 (m*n) e3,nv n,nv n,.slice E4 (n*n) e4,nv n,nv n,.slice E5 (n*n) e5,iv t,iv s] 72)::(b9,.cells (hdK m n t s 4) 114)::(Nl++X)):=fun X=>by
      rw[hJe]
      show HSub ((bj,_)::(Nl++[])) _
      refine HSub.at 0 rfl (HSub.skip ?_)
      rw[Vh]
      exact HSub.dJ
     refine Q9 au rfl aF rfl (fun w _ hs=>Qd1 K w bj J m n t s S hW hD ((ej _).aV hs) hm hn hI2 hI3 oq hbK) fun w v w' _ _ _ hR=>?_
     obtain⟨y,rfl,hy⟩:=hR
     cases y with
     | false =>
      have hno:=Qan (by rw[← hLe];exact hN) hD (fun h=>by have:=hy.2 h;cases this)
      repeat' first|apply jS|apply jO|apply jN|apply jT|refine Q1 ?_|refine Q0 ?_|refine Qp ?_|refine QG ?_|apply jV|refine Q5 rfl ?_|refine QA ?_|apply jR
      exact QN rfl rfl (fun a w' st=>⟨st.kp,.inr ⟨hno,rfl⟩⟩)
     | true =>
      have hp:=hy.1 rfl
      have hsb:=(Q0r hp.2.2).1
      repeat' first|apply jS|apply jO|apply jN|refine Q1 ?_|refine Q0 ?_|refine QG ?_|apply jT
      refine Q9 au rfl aF rfl (fun w _ hs=>Q4q K w bj J m n t s S hW hD ((ej _).aV hs) hm hn oq oq oq oq hbK) fun w v w' _ _ _ hR=>?_
      subst hR
      by_cases hq:ws=(encZ m n t s S).map tx
      ·have he:bU (encZ m n t s S)=s0:=by rw[Q20, ← hq,hws0]
       rw[he]
       repeat' first|apply jN|refine Q1 ?_|refine Qq ?_|refine Ya (h:=?_)|apply jT
       all_goals first
        | (exfalso;omega)
        | skip
       rw[show decide (s0≠s0)=false from decide_eq_false (fun h=>h rfl)]
       repeat' first|apply jS|apply jO|apply jN|apply jT|refine Q1 ?_|refine Q0 ?_|apply jK|apply jR|refine Q4 rfl ?_
       exact QN rfl rfl (fun a w' st=>⟨st.kp,.inl ⟨m,n,t,s,S,bj,J,⟨hq,hm,hn,hD,hp⟩,rfl,st.bI rfl (ej _),hW⟩⟩)
      ·have hno:=Qjo (by rw[← hLe];exact hN) hq
       have he:bU (encZ m n t s S)≠s0:=fun he=>hq (by
        have h1:=congrArg spl he
        rw[Q20,hsp,Q9t (by unfold encZ;simp) (fun y hy=>by obtain⟨a,_,rfl⟩:=List.mem_map.1 hy;exact Q9o a)]at h1
        exact h1.symm)
       repeat' first|apply jN|refine Q1 ?_|refine Qq ?_|refine Ya (h:=?_)|apply jT
       all_goals first
        | (exfalso;omega)
        | skip
       rw[decide_eq_true he]
       repeat' first|apply jS|apply jO|apply jN|apply jT|refine Q0 ?_|apply jV|apply jR|refine Q5 rfl ?_
       exact QN rfl rfl (fun a w' st=>⟨st.kp,.inr ⟨hno,rfl⟩⟩)
    ·have hno:=Qjp hN hm0 hn0 (by rw[← hLL];exact hl)
     repeat' first|apply jS|apply jO|apply jN|apply jT|refine Q1 ?_|(refine Qg (h1:=?_) (h2:=?_)<;>intro hc<;>try omega)|apply jU|apply jE|refine Q4 rfl ?_|apply Qc
     refine QI (j:=0) rfl rfl rfl rfl oq ?_
     repeat' first|apply jS|apply jO|apply jN|refine Q0 ?_|refine Q7 ?_|apply jT
     refine QI (j:=1) rfl rfl rfl rfl oq ?_
     repeat' first|apply jS|apply jO|apply jN|apply jT|refine Q1 ?_|refine Q0 ?_|refine Q7 ?_|refine Zt (h:=?_)|refine Z1 (h:=?_)|refine Q61 (h:=?_)|refine Qc8 (h:=?_)|refine Qq ?_|(refine Qg (h1:=?_) (h2:=?_)<;>intro hc<;>try omega)|(refine QU (h1:=?_) (h2:=?_)<;>intro hc<;>try omega)|(refine ZP (h1:=?_) (h2:=?_)<;>intro hc<;>try omega)|apply jV|apply jR|refine Q5 rfl ?_
     all_goals first
      | (exfalso;omega)
      | exact QN rfl rfl (fun a w' st=>⟨st.kp,.inr ⟨hno,rfl⟩⟩)
   ·have hno:=Qjq hN hr
    by_cases hc:L.getD 0 0<0
    ·repeat' first|apply jS|apply jO|apply jN|apply jT|refine Q1 ?_|(refine Qg (h1:=?_) (h2:=?_)<;>intro hc<;>try omega)|apply jU|apply jE|refine Q4 rfl ?_|apply Qc
     refine QI (j:=0) rfl rfl rfl rfl oq ?_
     repeat' first|apply jS|apply jO|apply jN|refine Q0 ?_|refine Q7 ?_|apply jT
     refine QI (j:=1) rfl rfl rfl rfl oq ?_
     repeat' first|apply jS|apply jO|apply jN|apply jT|refine Q1 ?_|refine Q0 ?_|refine Q7 ?_|refine Qp ?_|(refine Qg (h1:=?_) (h2:=?_)<;>intro hc<;>try omega)|apply jV|refine Q5 rfl ?_|refine QA ?_|apply jR
     all_goals first
      | (exfalso;omega)
      | exact QN rfl rfl (fun a w' st=>⟨st.kp,.inr ⟨hno,rfl⟩⟩)
    by_cases hc:0≤L.getD 0 0∧L.getD 1 0<0
    ·repeat' first|apply jS|apply jO|apply jN|apply jT|refine Q1 ?_|(refine Qg (h1:=?_) (h2:=?_)<;>intro hc<;>try omega)|apply jU|apply jE|refine Q4 rfl ?_|apply Qc
     refine QI (j:=0) rfl rfl rfl rfl oq ?_
     repeat' first|apply jS|apply jO|apply jN|refine Q0 ?_|refine Q7 ?_|apply jT
     refine QI (j:=1) rfl rfl rfl rfl oq ?_
     repeat' first|apply jS|apply jO|apply jN|apply jT|refine Q1 ?_|refine Q0 ?_|refine Q7 ?_|refine Qp ?_|refine Qq ?_|(refine Qg (h1:=?_) (h2:=?_)<;>intro hc<;>try omega)|apply jV|refine Q5 rfl ?_|refine QA ?_|apply jR
     all_goals first
      | (exfalso;omega)
      | exact QN rfl rfl (fun a w' st=>⟨st.kp,.inr ⟨hno,rfl⟩⟩)
    by_cases hc:0≤L.getD 0 0∧0≤L.getD 1 0∧200<L.getD 0 0
    ·repeat' first|apply jS|apply jO|apply jN|apply jT|refine Q1 ?_|(refine Qg (h1:=?_) (h2:=?_)<;>intro hc<;>try omega)|apply jU|apply jE|refine Q4 rfl ?_|apply Qc
     refine QI (j:=0) rfl rfl rfl rfl oq ?_
     repeat' first|apply jS|apply jO|apply jN|refine Q0 ?_|refine Q7 ?_|apply jT
     refine QI (j:=1) rfl rfl rfl rfl oq ?_
     repeat' first|apply jS|apply jO|apply jN|apply jT|refine Q1 ?_|refine Q0 ?_|refine Q7 ?_|refine Qp ?_|refine Qq ?_|(refine Qg (h1:=?_) (h2:=?_)<;>intro hc<;>try omega)|(refine QU (h1:=?_) (h2:=?_)<;>intro hc<;>try omega)|apply jV|refine Q5 rfl ?_|refine QA ?_|apply jR
     all_goals first
      | (exfalso;omega)
      | exact QN rfl rfl (fun a w' st=>⟨st.kp,.inr ⟨hno,rfl⟩⟩)
    by_cases hc:0≤L.getD 0 0∧0≤L.getD 1 0∧L.getD 0 0≤200∧200<L.getD 1 0
    ·repeat' first|apply jS|apply jO|apply jN|apply jT|refine Q1 ?_|(refine Qg (h1:=?_) (h2:=?_)<;>intro hc<;>try omega)|apply jU|apply jE|refine Q4 rfl ?_|apply Qc
     refine QI (j:=0) rfl rfl rfl rfl oq ?_
     repeat' first|apply jS|apply jO|apply jN|refine Q0 ?_|refine Q7 ?_|apply jT
     refine QI (j:=1) rfl rfl rfl rfl oq ?_
     repeat' first|apply jS|apply jO|apply jN|apply jT|refine Q1 ?_|refine Q0 ?_|refine Q7 ?_|refine Qp ?_|refine Qq ?_|(refine Qg (h1:=?_) (h2:=?_)<;>intro hc<;>try omega)|(refine QU (h1:=?_) (h2:=?_)<;>intro hc<;>try omega)|apply jV|refine Q5 rfl ?_|refine QA ?_|apply jR
     all_goals first
      | (exfalso;omega)
      | exact QN rfl rfl (fun a w' st=>⟨st.kp,.inr ⟨hno,rfl⟩⟩)
    exfalso
    omega


theorem Qbj (w:World) (x0:List UInt8) (l0:List (List UInt8)) (hB:∀ y∈x0::l0,NoB y) (hlen:(bZ (x0::l0)).length≤3000000) (hmax:MaxL w) (htab:iU w) :
  Calls Tryz.prog 30 #[sv (bZ (x0::l0))] w (aQ fun v w'=>Kp [] w w'∧((∃ m n t s S b W T,fC (x0::l0) m n t s S∧v=.tuple #[.pointer (some ⟨b,0,none⟩),iv 0]∧New (aK b W m n t s T) w w'∧dB W m n T S)∨((∀ m n t s S,¬fC (x0::l0) m n t s S)∧v=.tuple #[.pointer none,iv 11]))):=by
 have e8:(256:Nat) ^ 8=18446744073709551616:=by decide
 obtain⟨K,hKe⟩:∃ K,K=3000000:=⟨_,rfl⟩
 obtain⟨ws,hws⟩:∃ ws,ws=x0::l0:=⟨_,rfl⟩
 obtain⟨LL,hLL⟩:∃ LL,LL=ws.length:=⟨_,rfl⟩
 have hln:=Q97 x0 l0
 have hLb:LL≤3000001:=by rw[hLL,hws,List.length_cons];omega
 have hL1:1≤LL:=by rw[hLL,hws,List.length_cons];omega
 have hyl:∀ y∈ws,y.length≤K:=fun y hy=>by rw[hws]at hy;have:=Qb3 hy;omega
 have hwn:∀ {m n t s S},fC ws m n t s S→ws=(encZ m n t s S).map tx:=fun h=>h.w
 obtain⟨s0,hs0⟩:∃ s0,s0=bZ (x0::l0):=⟨_,rfl⟩
 rw[← hs0, ← hws]
 refine Qa [⟨21,1,[],[]⟩,⟨29,1,[0,1,2,4,7,9,12,14,15,16,17,3,5,6,8,10,11,13,18,19,20],[]⟩] [] aA [] Tryz.func30 rfl mixed (by kernel_rfl) Tryz.ntmps30 Tryz.results30 rfl ⟨by simp,by simp⟩ aA ?_
 simp only[toS,Qe,Qx,Qo,Qr,ay,Ql,Qy,aB]
 repeat' first|apply jS|apply jO|apply jN|refine Q1 ?_|refine Q0 ?_|refine Qh fun _=>?_|apply jT
 rename_i b4
 refine Qt (A:=[_]) (B:=[]) rfl au rfl aF rfl (fun w hk hs=>by
  have h:=Qio w x0 l0 oq hB (hmax.mono hk)
  rw[← hs0, ← hws]at h
  exact h) fun w v23 w' _ _ _ hR=>?_
 obtain⟨Ns,hNs,hOs⟩:=hR
 refine⟨Ns,hNs,?_⟩
 clear hNs
 have hOs':aH 9 1 Ns v23 LL (ws.map sv):=by rw[hLL];exact hOs
 skip
 refine Xy rfl rfl rfl hOs'.rd ?_
 repeat' first|apply jN|apply jT|refine Q1 ?_|apply jB
 refine Qn (ι:=Nat × Value × aj × List Int) ⟨fun z=>[(25,nv z.1),(24,nv LL),(23,v23),(4,.pointer (some ⟨b4,0,none⟩)),(0,sv s0)],fun z=>(b4,.cells #[z.2.1] 26)::(z.2.2.1++(Ns++[])),
  fun z=>z.1≤LL∧aN z.2.2.1 z.2.1 z.1 z.2.2.2∧(ws.take z.1).map pI=z.2.2.2.map some,fun z=>LL-z.1⟩ (0,.slice none 0 0,[],[]) ⟨by omega,aN.nil,rfl⟩ aC (HSub.refl _) (fun z hz=>?_)
 obtain⟨k,v4,Nl,qs⟩:=z
 obtain⟨hk,hO,hqs⟩:=hz
 dsimp only at hk hO hqs ⊢
 obtain⟨A4,c4,rfl⟩:=hO.form
 by_cases hlt:k<LL
 ·have hkm:k<ws.length:=by omega
  have hyk:=hyl (ws.getD k []) (QV hkm)
  repeat' first|apply jS|apply jO|apply jN|apply jT|(refine Qg (h1:=?_) (h2:=?_)<;>intro hc<;>try omega)|apply jK|refine Q5 rfl ?_|apply jB
  refine X5 rfl rfl rfl rfl hOs'.rd hlt ?_
  skip
  refine Q1q (u:=sv (ws.getD k [])) rfl rfl rfl rfl hOs'.rd (HSub.skip (Qf HSub.dJ)) (by rw[List.getElem?_map,List.getD,List.getElem?_eq_getElem hkm];rfl) ?_
  repeat' first|apply jS|apply jO|apply jN|refine Q1 ?_|refine Q0 ?_|apply jT
  refine Q9 au rfl aF rfl (fun w _ _=>Qmh w (ws.getD k []) oq) fun w v w' _ _ _ hR=>?_
  cases hp:pI (ws.getD k [])with
  | none =>
   obtain⟨zz,hz⟩:=Q3s hp
   rw[hz]at hR
   subst hR
   repeat' first|apply jS|apply jO|apply jN|apply jT|refine Q1 ?_|refine Q0 ?_|refine QG ?_|refine Qu (h:=?_)|refine Q6 ?_|refine Qh fun _=>?_|refine Q6 ?_|apply jV|apply jR|refine Q5 rfl ?_|apply Qz
   exact QN rfl rfl (fun a w' st=>⟨st.kp,.inr ⟨Qao hkm hp,rfl⟩⟩)
  | some a =>
   rw[Q3r hp]at hR
   subst hR
   repeat' first|apply jS|apply jO|apply jN|apply jT|refine Q1 ?_|refine Q0 ?_|refine Q7 ?_|refine Qm ?_|refine QG ?_|refine Qu (h:=?_)|refine Q6 ?_|refine Qh fun _=>?_|refine Q6 ?_|apply jK|refine Q4 rfl ?_
   refine Wy (sz:=2) (vs:=[Wv a]) (cl:=[.bool (wz a).1,sv (wz a).2]) rfl rfl (by first|rfl|trivial|exact⟨rfl,rfl⟩) rfl rfl (fun v hv=>by
    cases List.mem_singleton.1 hv;rfl) rfl dq dq (fun b38=>?_)
   have h1:=Q2t b38 a
   skip
   refine Zi (A:=[_,_,_]) (N:=Nl) (B:=Ns++[]) hO h1.rd Qb rfl au rfl rfl rfl rfl oq (fun v' N' aX=>?_)
   obtain⟨A5,c5,rfl⟩:=aX.form
   repeat' first|apply jO|apply jN|apply jT|refine Q1 ?_|refine Qd ?_|refine QO ?_|apply jW
   exact Q8 (k+1,.slice A5 (k+1) c5,N',qs++[a]) ⟨by dsimp only;omega,aX,by
    dsimp only
    rw[List.take_add_one,Vj,hqs,Vj]
    congr 1
    rw[List.getElem?_eq_getElem hkm]
    show [pI ws[k]]=[some a]
    rw[← hp,List.getD,List.getElem?_eq_getElem hkm]
    rfl⟩ aW aC (HSub.skip (HSub.skip (HSub.refl _)))
 ·obtain rfl:k=LL:=by omega
  rw[Vd oq]at hqs
  obtain⟨L,hLq⟩:∃ L,L=qs:=⟨_,rfl⟩
  rw[← hLq]at hO hqs
  have hN:fV ws L:=hqs
  have hLl:L.length=k:=by have:=hN.len;omega
  have hbd:∀ a∈L,a.natAbs<256 ^ K:=Qeo hN hyl
  clear hOs hOs' hLq hqs
  obtain⟨bl,hA4⟩:∃ bl,A4=some ⟨bl,0,none⟩:=by
   obtain⟨_,⟨_,h2,_⟩|⟨b,cap,cur,h1,_⟩⟩:=hO
   ·omega
   ·exact⟨b,by cases h1;rfl⟩
  subst hA4
  have hRl:∀ c:Cx,fH c Nl (.slice (some ⟨bl,0,none⟩) k c4) k L:=fun c=>hO.rd
  have hkc:k≤c4:=by
   obtain⟨_,⟨_,h2,_⟩|⟨b,cap,cur,h1,_,h3,_⟩⟩:=hO
   ·omega
   ·cases h1;exact h3
  repeat' first|apply jS|apply jO|apply jN|apply jT|refine Q1 ?_|(refine Qg (h1:=?_) (h2:=?_)<;>intro hc<;>try omega)|refine Qh fun _=>?_|apply jU|apply jE|refine Q4 rfl ?_|apply jB|apply Qc
  rename_i b9
  refine Qn (ι:=Nat) ⟨fun z=>[(41,nv z),(9,.pointer (some ⟨b9,0,none⟩)),(4,.pointer (some ⟨b4,0,none⟩)),(0,sv s0)],fun z=>(b9,.cells (hdK (L.getD 0 0) (L.getD 1 0) (L.getD 2 0) (L.getD 3 0) z) 114)::(b4,.cells #[.slice (some ⟨bl,0,none⟩) k c4] 26)::(Nl++[]),
   fun z=>z≤4∧(0<z→4≤k)∧∀ i,i<z → -9223372036854775808≤L.getD i 0∧L.getD i 0<9223372036854775808,fun z=>4-z⟩ 0 ⟨by omega,by omega,fun i hi=>by omega⟩ aC (HSub.at 0 rfl (HSub.at 0 rfl (by rw[Vh];exact HSub.dJ))) (fun z hz=>?_)
  obtain⟨hz,je,hzI⟩:=hz
  dsimp only at hz je hzI ⊢
  by_cases hlt4:z<4
  ·by_cases h4:k<4
   ·obtain rfl:z=0:=by omega
    repeat' first|apply jS|apply jO|apply jN|apply jT|refine Q1 ?_|refine Q0 ?_|refine Q7 ?_|refine Zt (h:=?_)|(refine Qg (h1:=?_) (h2:=?_)<;>intro hc<;>try omega)|apply jV|apply jK|apply jR|refine Q5 rfl ?_|apply jB|apply Qz
    all_goals first
     | (exfalso;omega)
     | skip
    exact QN rfl rfl (fun a w' st=>⟨st.kp,.inr ⟨Qer oq,rfl⟩⟩)
   ·rcases(show z=0∨z=1∨z=2∨z=3 by omega)with rfl|rfl|rfl|rfl
    ·repeat' first|apply jS|apply jO|apply jN|apply jT|refine Q1 ?_|refine Q0 ?_|refine Q7 ?_|refine QY (h:=?_)|refine Y4 (h:=?_)|refine Zt (h:=?_)|(refine Qg (h1:=?_) (h2:=?_)<;>intro hc<;>try omega)|apply jK|refine Q5 rfl ?_|refine Q4 rfl ?_|apply jB
     all_goals first
      | (exfalso;omega)
      | skip
     refine Q9 au rfl aF rfl (fun w _ _=>Qir w _ (L.getD 0 0) K (QC (hbd _ (QV oq))) oq) fun w v w' _ _ _ hR=>?_
     unfold gG at hR
     by_cases hI : -9223372036854775808≤L.getD 0 0∧L.getD 0 0<9223372036854775808
     ·rw[if_pos hI]at hR
      subst hR
      repeat' first|apply jS|apply jO|apply jN|apply jT|refine Q1 ?_|refine Q0 ?_|refine Qd ?_|refine QG ?_|refine Qu (h:=?_)|refine QI (h:=?_)|refine QO ?_|apply jK|refine Q4 rfl ?_|apply jW
      exact Q8 1 ⟨by first|omega|(dsimp only;omega),fun _=>by omega,fun i hi=>by
       rcases(show i=0∨i<0 by first|omega|(dsimp only at hi;omega))with rfl|h
       ·exact hI
       ·exact hzI i h⟩ gY aC (HSub.refl _)
     ·rw[if_neg hI]at hR
      subst hR
      repeat' first|apply jS|apply jO|apply jN|apply jT|refine Q1 ?_|refine Q0 ?_|refine QG ?_|refine Qu (h:=?_)|apply jV|apply jR|refine Q5 rfl ?_|apply Qz
      exact QN rfl rfl (fun a w' st=>⟨st.kp,.inr ⟨Q2b hN oq hI,rfl⟩⟩)
    ·repeat' first|apply jS|apply jO|apply jN|apply jT|refine Q1 ?_|refine Q0 ?_|refine Q7 ?_|refine QY (h:=?_)|refine Y4 (h:=?_)|refine Zt (h:=?_)|(refine Qg (h1:=?_) (h2:=?_)<;>intro hc<;>try omega)|apply jK|refine Q5 rfl ?_|refine Q4 rfl ?_|apply jB
     all_goals first
      | (exfalso;omega)
      | skip
     refine Q9 au rfl aF rfl (fun w _ _=>Qir w _ (L.getD 1 0) K (QC (hbd _ (QV oq))) oq) fun w v w' _ _ _ hR=>?_
     unfold gG at hR
     by_cases hI : -9223372036854775808≤L.getD 1 0∧L.getD 1 0<9223372036854775808
     ·rw[if_pos hI]at hR
      subst hR
      repeat' first|apply jS|apply jO|apply jN|apply jT|refine Q1 ?_|refine Q0 ?_|refine Qd ?_|refine QG ?_|refine Qu (h:=?_)|refine QI (h:=?_)|refine QO ?_|apply jK|refine Q4 rfl ?_|apply jW
      exact Q8 2 ⟨by first|omega|(dsimp only;omega),fun _=>by omega,fun i hi=>by
       rcases(show i=1∨i<1 by first|omega|(dsimp only at hi;omega))with rfl|h
       ·exact hI
       ·exact hzI i h⟩ gY aC (HSub.refl _)
     ·rw[if_neg hI]at hR
      subst hR
      repeat' first|apply jS|apply jO|apply jN|apply jT|refine Q1 ?_|refine Q0 ?_|refine QG ?_|refine Qu (h:=?_)|apply jV|apply jR|refine Q5 rfl ?_|apply Qz
      exact QN rfl rfl (fun a w' st=>⟨st.kp,.inr ⟨Q2b hN oq hI,rfl⟩⟩)
    ·repeat' first|apply jS|apply jO|apply jN|apply jT|refine Q1 ?_|refine Q0 ?_|refine Q7 ?_|refine QY (h:=?_)|refine Y4 (h:=?_)|refine Zt (h:=?_)|(refine Qg (h1:=?_) (h2:=?_)<;>intro hc<;>try omega)|apply jK|refine Q5 rfl ?_|refine Q4 rfl ?_|apply jB
     all_goals first
      | (exfalso;omega)
      | skip
     refine Q9 au rfl aF rfl (fun w _ _=>Qir w _ (L.getD 2 0) K (QC (hbd _ (QV oq))) oq) fun w v w' _ _ _ hR=>?_
     unfold gG at hR
     by_cases hI : -9223372036854775808≤L.getD 2 0∧L.getD 2 0<9223372036854775808
     ·rw[if_pos hI]at hR
      subst hR
      repeat' first|apply jS|apply jO|apply jN|apply jT|refine Q1 ?_|refine Q0 ?_|refine Qd ?_|refine QG ?_|refine Qu (h:=?_)|refine QI (h:=?_)|refine QO ?_|apply jK|refine Q4 rfl ?_|apply jW
      exact Q8 3 ⟨by first|omega|(dsimp only;omega),fun _=>by omega,fun i hi=>by
       rcases(show i=2∨i<2 by first|omega|(dsimp only at hi;omega))with rfl|h
       ·exact hI
       ·exact hzI i h⟩ gY aC (HSub.refl _)
     ·rw[if_neg hI]at hR
      subst hR
      repeat' first|apply jS|apply jO|apply jN|apply jT|refine Q1 ?_|refine Q0 ?_|refine QG ?_|refine Qu (h:=?_)|apply jV|apply jR|refine Q5 rfl ?_|apply Qz
      exact QN rfl rfl (fun a w' st=>⟨st.kp,.inr ⟨Q2b hN oq hI,rfl⟩⟩)
    ·repeat' first|apply jS|apply jO|apply jN|apply jT|refine Q1 ?_|refine Q0 ?_|refine Q7 ?_|refine QY (h:=?_)|refine Y4 (h:=?_)|refine Zt (h:=?_)|(refine Qg (h1:=?_) (h2:=?_)<;>intro hc<;>try omega)|apply jK|refine Q5 rfl ?_|refine Q4 rfl ?_|apply jB
     all_goals first
      | (exfalso;omega)
      | skip
     refine Q9 au rfl aF rfl (fun w _ _=>Qir w _ (L.getD 3 0) K (QC (hbd _ (QV oq))) oq) fun w v w' _ _ _ hR=>?_
     unfold gG at hR
     by_cases hI : -9223372036854775808≤L.getD 3 0∧L.getD 3 0<9223372036854775808
     ·rw[if_pos hI]at hR
      subst hR
      repeat' first|apply jS|apply jO|apply jN|apply jT|refine Q1 ?_|refine Q0 ?_|refine Qd ?_|refine QG ?_|refine Qu (h:=?_)|refine QI (h:=?_)|refine QO ?_|apply jK|refine Q4 rfl ?_|apply jW
      exact Q8 4 ⟨by first|omega|(dsimp only;omega),fun _=>by omega,fun i hi=>by
       rcases(show i=3∨i<3 by first|omega|(dsimp only at hi;omega))with rfl|h
       ·exact hI
       ·exact hzI i h⟩ gY aC (HSub.refl _)
     ·rw[if_neg hI]at hR
      subst hR
      repeat' first|apply jS|apply jO|apply jN|apply jT|refine Q1 ?_|refine Q0 ?_|refine QG ?_|refine Qu (h:=?_)|apply jV|apply jR|refine Q5 rfl ?_|apply Qz
      exact QN rfl rfl (fun a w' st=>⟨st.kp,.inr ⟨Q2b hN oq hI,rfl⟩⟩)
  ·obtain rfl:z=4:=by omega
   have h4k:=je oq
   have hI0:=hzI 0 oq
   have hI1:=hzI 1 oq
   have hI2:=hzI 2 oq
   have hI3:=hzI 3 oq
   clear hlt4 hlt hzI
   by_cases hr:0≤L.getD 0 0∧0≤L.getD 1 0∧L.getD 0 0≤200∧L.getD 1 0≤200
   ·obtain⟨r0,r1,r2,r3⟩:=hr
    obtain⟨m,hm0⟩:=Int.eq_ofNat_of_zero_le r0
    obtain⟨n,hn0⟩:=Int.eq_ofNat_of_zero_le r1
    have hm:m≤200:=by omega
    have hn:n≤200:=by omega
    have hmm:m*m≤40000:=Vn hm hm
    have hmn:m*n≤40000:=Vn hm hn
    have hnn:n*n≤40000:=Vn hn hn
    have hmI:2*(m:Int)*(m:Int)=((2*(m*m):Nat):Int):=by rw[Int.mul_assoc,Int.natCast_mul,Int.natCast_mul];rfl
    have hnI:2*(n:Int)*(n:Int)=((2*(n*n):Nat):Int):=by rw[Int.mul_assoc,Int.natCast_mul,Int.natCast_mul];rfl
    rw[hm0,hn0]
    clear hI0 hI1
    by_cases hl:k=4+(m*m+(m*m+(m*n+(n*n+n*n))))
    ·repeat' first|apply jS|apply jO|apply jD|apply jN|apply jT|(refine Qg (h1:=?_) (h2:=?_)<;>intro hc<;>try omega)|apply jU|apply jE|refine Q4 rfl ?_|apply Qc
     refine QI (j:=0) rfl rfl rfl rfl oq ?_
     repeat' first|refine Q7 ?_|fail
     refine QI (j:=1) rfl rfl rfl rfl oq ?_
     repeat' first|apply jS|apply jO|apply jN|apply jT|refine Q1 ?_|refine Q0 ?_|refine Q7 ?_|refine Zt (h:=?_)|refine Z1 (h:=?_)|refine Q61 (h:=?_)|refine Qc8 (h:=?_)|refine Q1p (h:=?_)|refine Q8w (h:=?_)|refine Qq ?_|(refine Qg (h1:=?_) (h2:=?_)<;>intro hc<;>try omega)|(refine QU (h1:=?_) (h2:=?_)<;>intro hc<;>try omega)|(refine ZP (h1:=?_) (h2:=?_)<;>intro hc<;>try omega)|apply jK|refine Q4 rfl ?_
     all_goals first
      | (exfalso;omega)
      | skip
     obtain⟨t,s,S,hL,hD⟩:=Qfb (hLl.trans hl) hm0 hn0
     have hb:Ok K S:=Q3x (by rw[← hL];exact hbd)
     have e2:L.getD 2 0=t:=by rw[hL];rfl
     have e3:L.getD 3 0=s:=by rw[hL];rfl
     rw[e2]at hI2 ⊢
     rw[e3]at hI3 ⊢
     have hNz:fV ws (encZ m n t s S):=by rw[← hL];exact hN
     refine Y9 (b:=bl) (o:=0) (l:=4) (h':=k) rfl rfl rfl (fun _=>rfl) rfl rfl (.inl rfl) rfl rfl (.inr ⟨rfl,rfl⟩) oq oq hkc (fun B0 hB0=>?_)
     have hS0:dO bl 4 (k-4) (c4-4) B0:=⟨fun h=>by have:=hB0 oq;simpa using this,by omega⟩
     clear hB0
     obtain⟨d0,hd0⟩:∃ d0,d0=c4-4:=⟨_,rfl⟩
     rw[← hd0]at hS0 ⊢
     repeat' first|apply jS|apply jO|apply jN|refine Q1 ?_|refine Q0 ?_|refine Yg (h:=?_)|refine QO ?_|apply jT
     refine Q0y (A:=[(b9,.cells (hdK m n t s 4) 114)]) (N:=[(b4,.cells #[.slice B0 (k-4) d0] 26)]) (B:=Nl++[]) (first:=#[]) (cap:=#[.pointer (some ⟨b4,0,none⟩)]) (R:=fun _ v w'=>∃ A1 c1 A2 c2,v=.agg #[nv m,nv m,.slice A1 (m*m) c1]∧dO bl (4) (m*m) c1 A1∧dO bl (4+m*m) (k-4-m*m) c2 A2∧w'.heap[b4]?=some (.cells #[.slice A2 (k-4-m*m) c2] 26)) rfl au rfl aF rfl rfl (fun w _ hs=>Q4c w b4 bl (4) (k-4) d0 m m B0 hS0 ((HSub.at 1 rfl (HSub.nil _)).aV hs) oq oq oq) (fun w1 v1 w2 _ _ _ hR=>?_)
     obtain⟨E1,e1,B1,d1,rfl,hE1,hS1,hin⟩:=hR
     refine⟨[(b4,.cells #[.slice B1 (k-4-m*m) d1] 26)],rfl,fun p hp=>by cases List.mem_singleton.1 hp;exact hin,?_⟩
     clear hin
     repeat' first|refine Q1 ?_|fail
     refine Q0y (A:=[(b9,.cells (hdK m n t s 4) 114)]) (N:=[(b4,.cells #[.slice B1 (k-4-m*m) d1] 26)]) (B:=Nl++[]) (first:=#[]) (cap:=#[.pointer (some ⟨b4,0,none⟩)]) (R:=fun _ v w'=>∃ A1 c1 A2 c2,v=.agg #[nv m,nv m,.slice A1 (m*m) c1]∧dO bl (4+m*m) (m*m) c1 A1∧dO bl (4+m*m+m*m) (k-4-m*m-m*m) c2 A2∧w'.heap[b4]?=some (.cells #[.slice A2 (k-4-m*m-m*m) c2] 26)) rfl au rfl aF rfl rfl (fun w _ hs=>Q4c w b4 bl (4+m*m) (k-4-m*m) d1 m m B1 hS1 ((HSub.at 1 rfl (HSub.nil _)).aV hs) oq oq oq) (fun w1 v1 w2 _ _ _ hR=>?_)
     obtain⟨E2,e2,B2,d2,rfl,hE2,hS2,hin⟩:=hR
     refine⟨[(b4,.cells #[.slice B2 (k-4-m*m-m*m) d2] 26)],rfl,fun p hp=>by cases List.mem_singleton.1 hp;exact hin,?_⟩
     clear hin
     repeat' first|refine Q1 ?_|fail
     refine Q0y (A:=[(b9,.cells (hdK m n t s 4) 114)]) (N:=[(b4,.cells #[.slice B2 (k-4-m*m-m*m) d2] 26)]) (B:=Nl++[]) (first:=#[]) (cap:=#[.pointer (some ⟨b4,0,none⟩)]) (R:=fun _ v w'=>∃ A1 c1 A2 c2,v=.agg #[nv m,nv n,.slice A1 (m*n) c1]∧dO bl (4+m*m+m*m) (m*n) c1 A1∧dO bl (4+m*m+m*m+m*n) (k-4-m*m-m*m-m*n) c2 A2∧w'.heap[b4]?=some (.cells #[.slice A2 (k-4-m*m-m*m-m*n) c2] 26)) rfl au rfl aF rfl rfl (fun w _ hs=>Q4c w b4 bl (4+m*m+m*m) (k-4-m*m-m*m) d2 m n B2 hS2 ((HSub.at 1 rfl (HSub.nil _)).aV hs) oq oq oq) (fun w1 v1 w2 _ _ _ hR=>?_)
     obtain⟨E3,e3,B3,d3,rfl,hE3,hS3,hin⟩:=hR
     refine⟨[(b4,.cells #[.slice B3 (k-4-m*m-m*m-m*n) d3] 26)],rfl,fun p hp=>by cases List.mem_singleton.1 hp;exact hin,?_⟩
     clear hin
     repeat' first|refine Q1 ?_|fail
     refine Q0y (A:=[(b9,.cells (hdK m n t s 4) 114)]) (N:=[(b4,.cells #[.slice B3 (k-4-m*m-m*m-m*n) d3] 26)]) (B:=Nl++[]) (first:=#[]) (cap:=#[.pointer (some ⟨b4,0,none⟩)]) (R:=fun _ v w'=>∃ A1 c1 A2 c2,v=.agg #[nv n,nv n,.slice A1 (n*n) c1]∧dO bl (4+m*m+m*m+m*n) (n*n) c1 A1∧dO bl (4+m*m+m*m+m*n+n*n) (k-4-m*m-m*m-m*n-n*n) c2 A2∧w'.heap[b4]?=some (.cells #[.slice A2 (k-4-m*m-m*m-m*n-n*n) c2] 26)) rfl au rfl aF rfl rfl (fun w _ hs=>Q4c w b4 bl (4+m*m+m*m+m*n) (k-4-m*m-m*m-m*n) d3 n n B3 hS3 ((HSub.at 1 rfl (HSub.nil _)).aV hs) oq oq oq) (fun w1 v1 w2 _ _ _ hR=>?_)
     obtain⟨E4,e4,B4,d4,rfl,hE4,hS4,hin⟩:=hR
     refine⟨[(b4,.cells #[.slice B4 (k-4-m*m-m*m-m*n-n*n) d4] 26)],rfl,fun p hp=>by cases List.mem_singleton.1 hp;exact hin,?_⟩
     clear hin
     repeat' first|refine Q1 ?_|fail
     refine Q0y (A:=[(b9,.cells (hdK m n t s 4) 114)]) (N:=[(b4,.cells #[.slice B4 (k-4-m*m-m*m-m*n-n*n) d4] 26)]) (B:=Nl++[]) (first:=#[]) (cap:=#[.pointer (some ⟨b4,0,none⟩)]) (R:=fun _ v w'=>∃ A1 c1 A2 c2,v=.agg #[nv n,nv n,.slice A1 (n*n) c1]∧dO bl (4+m*m+m*m+m*n+n*n) (n*n) c1 A1∧dO bl (4+m*m+m*m+m*n+n*n+n*n) (k-4-m*m-m*m-m*n-n*n-n*n) c2 A2∧w'.heap[b4]?=some (.cells #[.slice A2 (k-4-m*m-m*m-m*n-n*n-n*n) c2] 26)) rfl au rfl aF rfl rfl (fun w _ hs=>Q4c w b4 bl (4+m*m+m*m+m*n+n*n) (k-4-m*m-m*m-m*n-n*n) d4 n n B4 hS4 ((HSub.at 1 rfl (HSub.nil _)).aV hs) oq oq oq) (fun w1 v1 w2 _ _ _ hR=>?_)
     obtain⟨E5,e5,B5,d5,rfl,hE5,hS5,hin⟩:=hR
     refine⟨[(b4,.cells #[.slice B5 (k-4-m*m-m*m-m*n-n*n-n*n) d5] 26)],rfl,fun p hp=>by cases List.mem_singleton.1 hp;exact hin,?_⟩
     clear hin
     repeat' first|refine Q6 ?_|refine Qh fun _=>?_|refine Q6 ?_|apply jN
     rename_i b16 b17 b18 b19 b20
     refine JX.part (F':=[(20,.pointer (some ⟨b20,0,none⟩)),(19,.pointer (some ⟨b19,0,none⟩)),(18,.pointer (some ⟨b18,0,none⟩)),(17,.pointer (some ⟨b17,0,none⟩)),(16,.pointer (some ⟨b16,0,none⟩)),(13,nv m),(14,nv n),(9,.pointer (some ⟨b9,0,none⟩)),(0,sv s0)]) (H':=[(b20,.cells #[nv n,nv n,.slice E5 (n*n) e5] 28),(b19,.cells #[nv n,nv n,.slice E4 (n*n) e4] 28),(b18,.cells #[nv m,nv n,.slice E3 (m*n) e3] 28),(b17,.cells #[nv m,nv m,.slice E2 (m*m) e2] 28),(b16,.cells #[nv m,nv m,.slice E1 (m*m) e1] 28),(b9,.cells #[nv m,nv n,iv t,iv s] 114)]++(Nl++[])) aC QF ?_
     apply Zf
     have hLe:L=[(m:Int),(n:Int),t,s]++(S.u.flatten++(S.ui.flatten++(S.d.flatten++(S.v.flatten++(S.vi.flatten++[]))))):=by rw[hL,Vh];rfl
     have hp1:(L.drop (4)).take (m*m)=S.u.flatten:=by
      have h:=Wz (A:=[(m:Int),(n:Int),t,s]) (B:=S.u.flatten) (C:=S.ui.flatten++(S.d.flatten++(S.v.flatten++(S.vi.flatten++[])))) (o:=4) (k:=m*m) (by simp only[Vi,List.length_cons];rfl) (QQ hD.u)
      rw[hLe]
      simpa only[Vb] using h
     have hp2:(L.drop (4+m*m)).take (m*m)=S.ui.flatten:=by
      have h:=Wz (A:=([(m:Int),(n:Int),t,s]++S.u.flatten)) (B:=S.ui.flatten) (C:=S.d.flatten++(S.v.flatten++(S.vi.flatten++[]))) (o:=4+m*m) (k:=m*m) (by simp only[Vi,QQ hD.u];rfl) (QQ hD.ui)
      rw[hLe]
      simpa only[Vb] using h
     have hp3:(L.drop (4+m*m+m*m)).take (m*n)=S.d.flatten:=by
      have h:=Wz (A:=(([(m:Int),(n:Int),t,s]++S.u.flatten)++S.ui.flatten)) (B:=S.d.flatten) (C:=S.v.flatten++(S.vi.flatten++[])) (o:=4+m*m+m*m) (k:=m*n) (by simp only[Vi,QQ hD.u,QQ hD.ui];rfl) (QQ hD.d)
      rw[hLe]
      simpa only[Vb] using h
     have hp4:(L.drop (4+m*m+m*m+m*n)).take (n*n)=S.v.flatten:=by
      have h:=Wz (A:=((([(m:Int),(n:Int),t,s]++S.u.flatten)++S.ui.flatten)++S.d.flatten)) (B:=S.v.flatten) (C:=S.vi.flatten++[]) (o:=4+m*m+m*m+m*n) (k:=n*n) (by simp only[Vi,QQ hD.u,QQ hD.ui,QQ hD.d];rfl) (QQ hD.v)
      rw[hLe]
      simpa only[Vb] using h
     have hp5:(L.drop (4+m*m+m*m+m*n+n*n)).take (n*n)=S.vi.flatten:=by
      have h:=Wz (A:=(((([(m:Int),(n:Int),t,s]++S.u.flatten)++S.ui.flatten)++S.d.flatten)++S.v.flatten)) (B:=S.vi.flatten) (C:=[]) (o:=4+m*m+m*m+m*n+n*n) (k:=n*n) (by simp only[Vi,QQ hD.u,QQ hD.ui,QQ hD.d,QQ hD.v];rfl) (QQ hD.vi)
      rw[hLe]
      simpa only[Vb] using h
     repeat' first|apply jS|refine Qm ?_|apply jO
     refine Q9 au rfl aF rfl (fun w hk hs=>Qk0 K K w _ _ (gM m m S.u) (gM m m S.ui) (Wo hD.u oq oq) (Wo hD.ui oq oq) oq (Q8l hb.u) (Q8l hb.ui) (XJ hE1 (hRl _) oq hD.u hp1 hk hs Qb) (XJ hE2 (hRl _) oq hD.ui hp2 hk hs Qb) rfl) fun w v w' _ _ _ hR=>?_
     obtain⟨y1,rfl,hy1⟩:=hR
     cases y1 with
     | false =>
      have hno:¬opnP m n t s S:=fun h=>by have:=hy1.2 h.1;cases this
      repeat' first|apply jS|apply jO|apply jN|apply jT|refine Q1 ?_|refine Q0 ?_|refine Qp ?_|refine QG ?_|apply jV|refine Q5 rfl ?_|refine QA ?_|apply jR
      exact QN rfl rfl (fun a w' st=>⟨st.kp,.inr ⟨Qan hNz hD hno,rfl⟩⟩)
     | true =>
      have hy1:=hy1.1 rfl
      repeat' first|refine Q1 ?_|refine Qm ?_|refine QG ?_|fail
      refine Q9 au rfl aF rfl (fun w hk hs=>Qk0 K K w _ _ (gM n n S.v) (gM n n S.vi) (Wo hD.v oq oq) (Wo hD.vi oq oq) oq (Q8l hb.v) (Q8l hb.vi) (XJ hE4 (hRl _) oq hD.v hp4 hk hs Qb) (XJ hE5 (hRl _) oq hD.vi hp5 hk hs Qb) rfl) fun w v w' _ _ _ hR=>?_
      obtain⟨y2,rfl,hy2⟩:=hR
      cases y2 with
      | false =>
       have hno:¬opnP m n t s S:=fun h=>by have:=hy2.2 h.2.1;cases this
       repeat' first|apply jS|apply jO|apply jN|apply jT|refine Q0 ?_|refine Qq ?_|refine QG ?_|apply jV|apply jR|refine Q5 rfl ?_
       exact QN rfl rfl (fun a w' st=>⟨st.kp,.inr ⟨Qan hNz hD hno,rfl⟩⟩)
      | true =>
       have hy2:=hy2.1 rfl
       repeat' first|apply jS|apply jD|apply jN|apply jT|refine Q1 ?_|refine Qm ?_|refine Qq ?_|refine QG ?_|apply jK|refine Q4 rfl ?_
       refine QI (j:=2) rfl rfl rfl rfl oq ?_
       repeat' first|refine Q7 ?_|fail
       refine QI (j:=3) rfl rfl rfl rfl oq ?_
       repeat' first|refine Q7 ?_|fail
       refine Qt (A:=[_,_,_,_,_,_]) (B:=Nl++[]) rfl au rfl aF rfl (fun w hk hs=>YC w _ (gM m m S.u) (Wo hD.u oq oq) (XJ hE1 (hRl _) oq hD.u hp1 hk hs Qb)) fun w v w' _ _ _ hR=>?_
       obtain⟨Nu,tu,hNu,hTu,hLu⟩:=hR
       obtain⟨Au,cu,rfl⟩:=hTu.form
       refine⟨Nu++tH tu,hNu,?_⟩
       clear hNu
       skip
       refine Qt (A:=[_,_,_,_,_,_]) (B:=(Nu++tH tu)++(Nl++[])) rfl au rfl aF rfl (fun w hk hs=>XX w _ (gM m m S.ui) (Wo hD.ui oq oq) (XJ hE2 (hRl _) oq hD.ui hp2 hk hs Qb)) fun w v w' _ _ _ hR=>?_
       obtain⟨Mp,hMp,Fp,rfl,hOp⟩:=hR
       obtain⟨Gp,gp,rfl⟩:=hOp.form
       refine⟨Mp,hMp,?_⟩
       clear hMp
       skip
       refine Qt (A:=[_,_,_,_,_,_]) (B:=Mp++((Nu++tH tu)++(Nl++[]))) rfl au rfl aF rfl (fun w hk hs=>YC w _ (trZ (gM m m S.ui)) (XZ (show m≤200 by omega) (show m≤200 by omega)) ⟨_,rfl,hOp.rd.at hk hs Qb⟩) fun w v w' _ _ _ hR=>?_
       obtain⟨Ni,ti,hNi,hTi,hLi⟩:=hR
       obtain⟨Ai,ci,rfl⟩:=hTi.form
       refine⟨Ni++tH ti,hNi,?_⟩
       clear hNi
       skip
       refine Qt (A:=[_,_,_,_,_,_]) (B:=(Ni++tH ti)++(Mp++((Nu++tH tu)++(Nl++[])))) rfl au rfl aF rfl (fun w hk hs=>YC w _ (gM m n S.d) (Wo hD.d oq oq) (XJ hE3 (hRl _) oq hD.d hp3 hk hs Qb)) fun w v w' _ _ _ hR=>?_
       obtain⟨Nd,td,hNd,hTd,hLd⟩:=hR
       obtain⟨Ad,cd,rfl⟩:=hTd.form
       refine⟨Nd++tH td,hNd,?_⟩
       clear hNd
       skip
       refine Qt (A:=[_,_,_,_,_,_]) (B:=(Nd++tH td)++((Ni++tH ti)++(Mp++((Nu++tH tu)++(Nl++[]))))) rfl au rfl aF rfl (fun w hk hs=>XX w _ (gM n n S.v) (Wo hD.v oq oq) (XJ hE4 (hRl _) oq hD.v hp4 hk hs Qb)) fun w v w' _ _ _ hR=>?_
       obtain⟨Mq,hMq,Fq,rfl,hOq⟩:=hR
       obtain⟨Gq,gq,rfl⟩:=hOq.form
       refine⟨Mq,hMq,?_⟩
       clear hMq
       skip
       refine Qt (A:=[_,_,_,_,_,_]) (B:=Mq++((Nd++tH td)++((Ni++tH ti)++(Mp++((Nu++tH tu)++(Nl++[])))))) rfl au rfl aF rfl (fun w hk hs=>YC w _ (trZ (gM n n S.v)) (XZ (show n≤200 by omega) (show n≤200 by omega)) ⟨_,rfl,hOq.rd.at hk hs Qb⟩) fun w v w' _ _ _ hR=>?_
       obtain⟨Nx,tX,hNx,hTx,hLx⟩:=hR
       obtain⟨Ax,cx,rfl⟩:=hTx.form
       refine⟨Nx++tH tX,hNx,?_⟩
       clear hNx
       skip
       refine Qt (A:=[_,_,_,_,_,_]) (B:=(Nx++tH tX)++(Mq++((Nd++tH td)++((Ni++tH ti)++(Mp++((Nu++tH tu)++(Nl++[]))))))) rfl au rfl aF rfl (fun w hk hs=>YC w _ (gM n n S.vi) (Wo hD.vi oq oq) (XJ hE5 (hRl _) oq hD.vi hp5 hk hs Qb)) fun w v w' _ _ _ hR=>?_
       obtain⟨Nj,tj,hNj,hTj,hLj⟩:=hR
       obtain⟨Aj,cj,rfl⟩:=hTj.form
       refine⟨Nj++tH tj,hNj,?_⟩
       clear hNj
       skip
       obtain⟨W,hWd⟩:∃ W:WV,W=⟨.slice Au tu.length cu,.slice Ai ti.length ci,.slice Ad td.length cd,.slice Ax tX.length cx,.slice Aj tj.length cj,Nu,Ni,Nd,Nx,Nj⟩:=⟨_,rfl⟩
       obtain⟨T,hTd'⟩:∃ T:WT,T=⟨tu,ti,td,tX,tj⟩:=⟨_,rfl⟩
       have hW:dB W m n T S:=by
        subst hWd hTd'
        rw[Q3i hD.u oq oq]at hLu
        rw[Q7c hD.ui oq oq]at hLi
        rw[Q3i hD.d oq oq]at hLd
        rw[Q7c hD.v oq oq]at hLx
        rw[Q3i hD.vi oq oq]at hLj
        have hln:∀ {r c:Nat} {g:List (List Int)} {ts:List TR},ts.map (·.2.2)=g→Rec r c g→ts.length=r:=fun h hr=>by rw[← hr.len, ← h,List.length_map]
        exact⟨⟨hTu,hln hLu hD.u,hLu⟩,⟨hTi,hln hLi (Y2 _ _ _),hLi⟩,⟨hTd,hln hLd hD.d,hLd⟩,⟨hTx,hln hLx (Y2 _ _ _),hLx⟩,⟨hTj,hln hLj hD.vi,hLj⟩⟩
       refine Zw (l:=[(0,nv m),(1,nv n),(2,.slice Au tu.length cu),(3,.slice Ai ti.length ci),(4,.slice Ad td.length cd),(5,.slice Ax tX.length cx),(6,.slice Aj tj.length cj),(7,iv t),(8,iv s)]) (cs:=#[nv m,nv n,.slice Au tu.length cu,.slice Ai ti.length ci,.slice Ad td.length cd,.slice Ax tX.length cx,.slice Aj tj.length cj,iv t,iv s]) rfl rfl rfl (by kernel_rfl) ?_
       refine QM rfl rfl rfl rfl (fun b21=>?_)
       repeat' first|refine Q0 ?_|apply jN
       refine JX.part (F':=[(21,.pointer (some ⟨b21,0,none⟩)),(0,sv s0)]) (H':=aK b21 W m n t s T) aC (by subst hWd hTd';exact⟨_,Qej (x:=[_]) (y:=[_,_,_,_,_,_])⟩) ?_
       apply Zf
       clear hLu hLi hLd hLx hLj hTu hTi hTd hTx hTj hWd hTd' hOp hOq
       repeat' first|apply jS|refine Q1 ?_|apply jO
       refine Q9 au rfl aF rfl (fun w _ hs=>Qil K w b21 W m n t s T S hW hs oq oq oq oq oq hb.d) fun w v w' _ _ _ hR=>?_
       subst hR
       cases hsn:gX m n t s S with
       | false =>
        have hno:¬opnP m n t s S:=fun h=>by have:=h.2.2;rw[hsn]at this;cases this
        repeat' first|apply jS|apply jO|apply jN|apply jT|refine Q1 ?_|refine Q0 ?_|refine Qp ?_|refine QG ?_|apply jV|refine Q5 rfl ?_|refine QA ?_|apply jR
        exact QN rfl rfl (fun a w' st=>⟨st.kp,.inr ⟨Qan hNz hD hno,rfl⟩⟩)
       | true =>
        have hopn:opnP m n t s S:=⟨hy1,hy2,hsn⟩
        have hsb:=(Q0r hsn).1
        obtain⟨ht0,hs1⟩:=Qkk hsn
        obtain⟨tn,rfl⟩:=Int.eq_ofNat_of_zero_le ht0
        obtain⟨sn,rfl⟩:=Int.eq_ofNat_of_zero_le hs1
        repeat' first|refine Q1 ?_|refine QG ?_|fail
        have hlE:(bU (encZ m n tn sn S)).length≤281474976710656:=V0 (Q31 (K:=K) _ (by rw[← hL];exact hbd)) (by
         rw[← hL,hLl]
         exact V0 (Vn (show k≤3000001 by omega) (show 3*K+2≤9000002 by omega)) dq)
        refine Q9 au rfl aF rfl (fun w hk hs=>Q23 K w b21 W m n tn sn T S hW hD hs hm hn oq oq (htab.mono hk) oq oq hlE hb) fun w v w' _ _ _ hR=>?_
        subst hR
        by_cases hq:ws=(encZ m n tn sn S).map tx
        ·have he:bU (encZ m n tn sn S)=s0:=by rw[Q20, ← hq,hws,hs0]
         rw[he]
         repeat' first|apply jN|refine Q1 ?_|refine Qq ?_|refine Ya (h:=?_)|apply jT
         all_goals first
          | (exfalso;omega)
          | skip
         rw[show decide (s0≠s0)=false from decide_eq_false (fun h=>h rfl)]
         repeat' first|apply jS|apply jO|apply jN|apply jT|refine Q1 ?_|refine Q0 ?_|apply jK|apply jR|refine Q4 rfl ?_
         exact QN rfl rfl (fun a w' st=>⟨st.kp,.inl ⟨m,n,tn,sn,S,b21,W,T,⟨hq,hm,hn,hD,hopn⟩,rfl,st.bI rfl (HSub.refl _),hW⟩⟩)
        ·have hno:=Qjo hNz hq
         have he:bU (encZ m n tn sn S)≠s0:=fun he=>hq (by
          have h1:=congrArg spl he
          rw[Q20,hs0,Q2n l0 x0 hB, ← hws,Q9t (by unfold encZ;simp) (fun y hy=>by obtain⟨a,_,rfl⟩:=List.mem_map.1 hy;exact Q9o a)]at h1
          exact h1.symm)
         repeat' first|apply jN|refine Q1 ?_|refine Qq ?_|refine Ya (h:=?_)|apply jT
         all_goals first
          | (exfalso;omega)
          | skip
         rw[decide_eq_true he]
         repeat' first|apply jS|apply jO|apply jN|apply jT|refine Q0 ?_|apply jV|apply jR|refine Q5 rfl ?_
         exact QN rfl rfl (fun a w' st=>⟨st.kp,.inr ⟨hno,rfl⟩⟩)
    ·have hno:=Qjp hN hm0 hn0 (by rw[← hLL];exact hl)
     repeat' first|apply jS|apply jO|apply jD|apply jN|apply jT|(refine Qg (h1:=?_) (h2:=?_)<;>intro hc<;>try omega)|apply jU|apply jE|refine Q4 rfl ?_|apply Qc
     refine QI (j:=0) rfl rfl rfl rfl oq ?_
     repeat' first|refine Q7 ?_|fail
     refine QI (j:=1) rfl rfl rfl rfl oq ?_
     repeat' first|apply jS|apply jO|apply jN|apply jT|refine Q1 ?_|refine Q0 ?_|refine Q7 ?_|refine Zt (h:=?_)|refine Z1 (h:=?_)|refine Q61 (h:=?_)|refine Qc8 (h:=?_)|refine Q1p (h:=?_)|refine Q8w (h:=?_)|refine Qq ?_|(refine Qg (h1:=?_) (h2:=?_)<;>intro hc<;>try omega)|(refine QU (h1:=?_) (h2:=?_)<;>intro hc<;>try omega)|(refine ZP (h1:=?_) (h2:=?_)<;>intro hc<;>try omega)|apply jV|apply jR|refine Q5 rfl ?_
     all_goals first
      | (exfalso;omega)
      | exact QN rfl rfl (fun a w' st=>⟨st.kp,.inr ⟨hno,rfl⟩⟩)
   ·have hno:=Qjq hN hr
    by_cases hc:L.getD 0 0<0
    ·by_cases hcm:L.getD 0 0<L.getD 1 0
     ·repeat' first|apply jS|apply jO|apply jD|apply jN|apply jT|(refine Qg (h1:=?_) (h2:=?_)<;>intro hc<;>try omega)|apply jU|apply jE|refine Q4 rfl ?_|apply Qc
      refine QI (j:=0) rfl rfl rfl rfl oq ?_
      repeat' first|refine Q7 ?_|fail
      refine QI (j:=1) rfl rfl rfl rfl oq ?_
      repeat' first|apply jS|apply jO|apply jN|apply jT|refine Q1 ?_|refine Q0 ?_|refine Q7 ?_|refine Q1p (h:=?_)|refine Qp ?_|(refine Qg (h1:=?_) (h2:=?_)<;>intro hc<;>try omega)|apply jV|refine Q5 rfl ?_|refine QA ?_|apply jR
      all_goals first
       | (exfalso;omega)
       | exact QN rfl rfl (fun a w' st=>⟨st.kp,.inr ⟨hno,rfl⟩⟩)
     ·repeat' first|apply jS|apply jO|apply jD|apply jN|apply jT|(refine Qg (h1:=?_) (h2:=?_)<;>intro hc<;>try omega)|apply jU|apply jE|refine Q4 rfl ?_|apply Qc
      refine QI (j:=0) rfl rfl rfl rfl oq ?_
      repeat' first|refine Q7 ?_|fail
      refine QI (j:=1) rfl rfl rfl rfl oq ?_
      repeat' first|apply jS|apply jO|apply jN|apply jT|refine Q1 ?_|refine Q0 ?_|refine Q7 ?_|refine Q1p (h:=?_)|refine Qp ?_|(refine Qg (h1:=?_) (h2:=?_)<;>intro hc<;>try omega)|apply jV|refine Q5 rfl ?_|refine QA ?_|apply jR
      all_goals first
       | (exfalso;omega)
       | exact QN rfl rfl (fun a w' st=>⟨st.kp,.inr ⟨hno,rfl⟩⟩)
    by_cases hc:0≤L.getD 0 0∧L.getD 1 0<0
    ·by_cases hcm:L.getD 0 0<L.getD 1 0
     ·exfalso
      omega
     ·repeat' first|apply jS|apply jO|apply jD|apply jN|apply jT|(refine Qg (h1:=?_) (h2:=?_)<;>intro hc<;>try omega)|apply jU|apply jE|refine Q4 rfl ?_|apply Qc
      refine QI (j:=0) rfl rfl rfl rfl oq ?_
      repeat' first|refine Q7 ?_|fail
      refine QI (j:=1) rfl rfl rfl rfl oq ?_
      repeat' first|apply jS|apply jO|apply jN|apply jT|refine Q1 ?_|refine Q0 ?_|refine Q7 ?_|refine Q1p (h:=?_)|refine Qp ?_|(refine Qg (h1:=?_) (h2:=?_)<;>intro hc<;>try omega)|apply jV|refine Q5 rfl ?_|refine QA ?_|apply jR
      all_goals first
       | (exfalso;omega)
       | exact QN rfl rfl (fun a w' st=>⟨st.kp,.inr ⟨hno,rfl⟩⟩)
    by_cases hc:0≤L.getD 0 0∧0≤L.getD 1 0∧200<L.getD 0 0
    ·by_cases hcm:L.getD 0 0<L.getD 1 0
     ·repeat' first|apply jS|apply jO|apply jD|apply jN|apply jT|(refine Qg (h1:=?_) (h2:=?_)<;>intro hc<;>try omega)|apply jU|apply jE|refine Q4 rfl ?_|apply Qc
      refine QI (j:=0) rfl rfl rfl rfl oq ?_
      repeat' first|refine Q7 ?_|fail
      refine QI (j:=1) rfl rfl rfl rfl oq ?_
      repeat' first|apply jS|apply jO|apply jN|apply jT|refine Q1 ?_|refine Q0 ?_|refine Q7 ?_|refine Q1p (h:=?_)|refine Q8w (h:=?_)|refine Qp ?_|refine Qq ?_|(refine Qg (h1:=?_) (h2:=?_)<;>intro hc<;>try omega)|(refine QU (h1:=?_) (h2:=?_)<;>intro hc<;>try omega)|apply jV|refine Q5 rfl ?_|refine QA ?_|apply jR
      all_goals first
       | (exfalso;omega)
       | exact QN rfl rfl (fun a w' st=>⟨st.kp,.inr ⟨hno,rfl⟩⟩)
     ·repeat' first|apply jS|apply jO|apply jD|apply jN|apply jT|(refine Qg (h1:=?_) (h2:=?_)<;>intro hc<;>try omega)|apply jU|apply jE|refine Q4 rfl ?_|apply Qc
      refine QI (j:=0) rfl rfl rfl rfl oq ?_
      repeat' first|refine Q7 ?_|fail
      refine QI (j:=1) rfl rfl rfl rfl oq ?_
      repeat' first|apply jS|apply jO|apply jN|apply jT|refine Q1 ?_|refine Q0 ?_|refine Q7 ?_|refine Q1p (h:=?_)|refine Q8w (h:=?_)|refine Qp ?_|refine Qq ?_|(refine Qg (h1:=?_) (h2:=?_)<;>intro hc<;>try omega)|(refine QU (h1:=?_) (h2:=?_)<;>intro hc<;>try omega)|apply jV|refine Q5 rfl ?_|refine QA ?_|apply jR
      all_goals first
       | (exfalso;omega)
       | exact QN rfl rfl (fun a w' st=>⟨st.kp,.inr ⟨hno,rfl⟩⟩)
    by_cases hc:0≤L.getD 0 0∧0≤L.getD 1 0∧L.getD 0 0≤200∧200<L.getD 1 0
    ·by_cases hcm:L.getD 0 0<L.getD 1 0
     ·repeat' first|apply jS|apply jO|apply jD|apply jN|apply jT|(refine Qg (h1:=?_) (h2:=?_)<;>intro hc<;>try omega)|apply jU|apply jE|refine Q4 rfl ?_|apply Qc
      refine QI (j:=0) rfl rfl rfl rfl oq ?_
      repeat' first|refine Q7 ?_|fail
      refine QI (j:=1) rfl rfl rfl rfl oq ?_
      repeat' first|apply jS|apply jO|apply jN|apply jT|refine Q1 ?_|refine Q0 ?_|refine Q7 ?_|refine Q1p (h:=?_)|refine Q8w (h:=?_)|refine Qp ?_|refine Qq ?_|(refine Qg (h1:=?_) (h2:=?_)<;>intro hc<;>try omega)|(refine QU (h1:=?_) (h2:=?_)<;>intro hc<;>try omega)|apply jV|refine Q5 rfl ?_|refine QA ?_|apply jR
      all_goals first
       | (exfalso;omega)
       | exact QN rfl rfl (fun a w' st=>⟨st.kp,.inr ⟨hno,rfl⟩⟩)
     ·exfalso
      omega
    exfalso
    omega


theorem Q73 (K L:Nat) (w:World) (b:Nat) (J:JW) (m n:Nat) (t s:Int) (S:Sm) (i k:Nat) (f:Int) (hJ:jm J m n S) (hD:Dm m n S) (hs:aG (bJ b J m n t s) w) (hi:i<m) (hk:k<m) (hik:i≠k) (hm:m≤200) (hn:n≤200) (hK:K+L≤8000000000) (hb:Ok K S) (hf:f.natAbs<256 ^ L) :
  Calls Tryz.prog 131 #[.pointer (some ⟨b,0,none⟩),nv i,nv k,Wv f] w (aQ fun _ w'=>JwR b J m n t s t s (S.rows i k (aT f)) w w'):=by
 have hM:=QK hs
 have hfn:(-f).natAbs<256 ^ L:=by rw[Int.natAbs_neg];exact hf
 refine Qa [⟨1,1,[],[]⟩,⟨2,1,[],[]⟩] (keys (bJ b J m n t s)) hM (bJ b J m n t s) Tryz.func131 rfl mixed (by kernel_rfl) Tryz.ntmps131 Tryz.results131 rfl hs (fun p hp=>List.mem_map.2 ⟨p,hp,rfl⟩) ?_
 simp only[toS,Qe,Qx,Qo,Qr,ay,Ql,Qy,aB]
 unfold bJ iq
 repeat' first|apply jS|apply jO|apply jD|apply jN|refine Q1 ?_|refine Q2 ?_|refine Q3 ?_|refine QM (h:=fun _=>?_)|apply jT
 rename_i b7
 have h0:=hJ.o
 refine QB 1 rfl rfl rfl rfl rfl rfl rfl rfl ?_
 repeat' first|refine Q1 ?_|refine Qm ?_|fail
 refine ZN (A:=[_,_]) (N:=J.N) (B:=[]) rfl au rfl aF rfl (fun w hs=>Xu K L w J.d.A J.d.c _ J.N m n i k f (gE S.d) (hJ.wd _ _ _ _) h0 hs hi hk hm hn hK hf (fun a b' _ _=>QT hb.d a b')) (fun _ h=>hJ.ky h0 h) (fun u N1 h1=>?_)
 rw[Qk (fun a b' _ hb'=>Qay hD.d hi hk hik hb')]at h1
 repeat' first|apply jS|apply jD|apply jN|refine Q1 ?_|refine Q2 ?_|refine Q3 ?_|apply jT
 refine QB 1 rfl rfl rfl rfl rfl rfl rfl rfl ?_
 repeat' first|refine Q1 ?_|refine Qm ?_|fail
 refine ZN (A:=[_,_]) (N:=N1) (B:=[]) rfl au rfl aF rfl (fun w hs=>Xu K L w J.u.A J.u.c _ N1 m m i k f (gE S.u) (hJ.wu _ _ _ _) h1 hs hi hk hm hm hK hf (fun a b' _ _=>QT hb.u a b')) (fun _ h=>hJ.ky h1 h) (fun u N2 h2=>?_)
 rw[Qk (fun a b' _ hb'=>Qay hD.u hi hk hik hb')]at h2
 repeat' first|apply jN|apply jT
 refine XY [(b7,.cells #[.bool (decide (f<0)),sv (aS f.natAbs)] 75 (0,0)),(b,.cells #[nv m,nv m,.slice J.u.A (m*m) J.u.c,nv m,nv m,.slice J.ui.A (m*m) J.ui.c,nv m,nv n,.slice J.d.A (m*n) J.d.c,nv n,nv n,.slice J.v.A (n*n) J.v.c,nv n,nv n,.slice J.vi.A (n*n) J.vi.c,iv t,iv s] 72 (0,0))] (HSub.at 0 rfl (HSub.at 0 rfl (HSub.nil _))) ?_
 repeat' first|refine Q1 ?_|refine Q2 ?_|refine Q3 ?_|fail
 refine QB 1 rfl rfl rfl rfl rfl rfl rfl rfl ?_
 repeat' first|refine Q1 ?_|refine Qm ?_|fail
 refine Q9 au rfl aF rfl (fun w _ _=>Q4d w _ f L (QC hf) oq) fun w v w' _ _ _ hR=>?_
 subst hR
 skip
 refine Qab (A:=[_,_]) (N:=N2) (B:=[]) rfl (HSub.at 0 rfl (HSub.at 0 rfl (HSub.nil _))) rfl aF rfl (fun w hs=>Wt K L w J.ui.A J.ui.c _ N2 m m k i (-f) (gE S.ui) (hJ.wui _ _ _ _) h2 hs hk hi hm hm hK hfn (fun a b' _ _=>QT hb.ui a b')) (fun _ h=>hJ.ky h2 h) (fun u N3 h3=>?_)
 rw[Qk (fun a b' ha _=>Qf4 hD.ui hi hk hik ha)]at h3
 repeat' first|apply jN
 exact Ze (fun a w' st=>⟨st.kp,{ J with N:=N3 },Q0e (hJ.ky hJ.o h3),fun p hp=>st.hs.blk p (Vc _ hp),hJ.turn h3,⟨N3,rfl⟩⟩)

theorem Qcz (K L:Nat) (w:World) (b:Nat) (J:JW) (m n:Nat) (t s:Int) (S:Sm) (i k:Nat) (f:Int) (hJ:jm J m n S) (hD:Dm m n S) (hs:aG (bJ b J m n t s) w) (hi:i<n) (hk:k<n) (hik:i≠k) (hm:m≤200) (hn:n≤200) (hK:K+L≤8000000000) (hb:Ok K S) (hf:f.natAbs<256 ^ L) :
  Calls Tryz.prog 133 #[.pointer (some ⟨b,0,none⟩),nv i,nv k,Wv f] w (aQ fun _ w'=>JwR b J m n t s t s (S.cols i k (aT f)) w w'):=by
 have hM:=QK hs
 have hfn:(-f).natAbs<256 ^ L:=by rw[Int.natAbs_neg];exact hf
 refine Qa [⟨1,1,[],[]⟩,⟨2,1,[],[]⟩] (keys (bJ b J m n t s)) hM (bJ b J m n t s) Tryz.func133 rfl mixed (by kernel_rfl) Tryz.ntmps133 Tryz.results133 rfl hs (fun p hp=>List.mem_map.2 ⟨p,hp,rfl⟩) ?_
 simp only[toS,Qe,Qx,Qo,Qr,ay,Ql,Qy,aB]
 unfold bJ iq
 repeat' first|apply jS|apply jO|apply jD|apply jN|refine Q1 ?_|refine Q2 ?_|refine Q3 ?_|refine QM (h:=fun _=>?_)|apply jT
 rename_i b7
 have h0:=hJ.o
 refine QB 1 rfl rfl rfl rfl rfl rfl rfl rfl ?_
 repeat' first|refine Q1 ?_|refine Qm ?_|fail
 refine ZN (A:=[_,_]) (N:=J.N) (B:=[]) rfl au rfl aF rfl (fun w hs=>Wt K L w J.d.A J.d.c _ J.N m n i k f (gE S.d) (hJ.wd _ _ _ _) h0 hs hi hk hm hn hK hf (fun a b' _ _=>QT hb.d a b')) (fun _ h=>hJ.ky h0 h) (fun u N1 h1=>?_)
 rw[Qk (fun a b' ha _=>Qb0 hD.d hi hk hik ha)]at h1
 repeat' first|apply jS|apply jD|apply jN|refine Q1 ?_|refine Q2 ?_|refine Q3 ?_|apply jT
 refine QB 1 rfl rfl rfl rfl rfl rfl rfl rfl ?_
 repeat' first|refine Q1 ?_|refine Qm ?_|fail
 refine ZN (A:=[_,_]) (N:=N1) (B:=[]) rfl au rfl aF rfl (fun w hs=>Wt K L w J.v.A J.v.c _ N1 n n i k f (gE S.v) (hJ.wv _ _ _ _) h1 hs hi hk hn hn hK hf (fun a b' _ _=>QT hb.v a b')) (fun _ h=>hJ.ky h1 h) (fun u N2 h2=>?_)
 rw[Qk (fun a b' ha _=>Qb0 hD.v hi hk hik ha)]at h2
 repeat' first|apply jN|apply jT
 refine XY [(b7,.cells #[.bool (decide (f<0)),sv (aS f.natAbs)] 75 (0,0)),(b,.cells #[nv m,nv m,.slice J.u.A (m*m) J.u.c,nv m,nv m,.slice J.ui.A (m*m) J.ui.c,nv m,nv n,.slice J.d.A (m*n) J.d.c,nv n,nv n,.slice J.v.A (n*n) J.v.c,nv n,nv n,.slice J.vi.A (n*n) J.vi.c,iv t,iv s] 72 (0,0))] (HSub.at 0 rfl (HSub.at 0 rfl (HSub.nil _))) ?_
 repeat' first|refine Q1 ?_|refine Q2 ?_|refine Q3 ?_|fail
 refine QB 1 rfl rfl rfl rfl rfl rfl rfl rfl ?_
 repeat' first|refine Q1 ?_|refine Qm ?_|fail
 refine Q9 au rfl aF rfl (fun w _ _=>Q4d w _ f L (QC hf) oq) fun w v w' _ _ _ hR=>?_
 subst hR
 skip
 refine Qab (A:=[_,_]) (N:=N2) (B:=[]) rfl (HSub.at 0 rfl (HSub.at 0 rfl (HSub.nil _))) rfl aF rfl (fun w hs=>Xu K L w J.vi.A J.vi.c _ N2 n n k i (-f) (gE S.vi) (hJ.wvi _ _ _ _) h2 hs hk hi hn hn hK hfn (fun a b' _ _=>QT hb.vi a b')) (fun _ h=>hJ.ky h2 h) (fun u N3 h3=>?_)
 rw[Qk (fun a b' _ hb'=>Qf3 hD.vi hi hk hik hb')]at h3
 repeat' first|apply jN
 exact Ze (fun a w' st=>⟨st.kp,{ J with N:=N3 },Q0e (hJ.ky hJ.o h3),fun p hp=>st.hs.blk p (Vc _ hp),hJ.turn h3,⟨N3,rfl⟩⟩)

section
variable {c:Cx} {Q:Exit→Act→World→Prop} {md:Mode} {F:ak} {H:aj} {r:List bT} {g:Option (Option Tmp × Bool)} {ns:Bool} {ty:TypeId}
theorem XO {A:aj} {f:FuncId} {args:Array Operand} {ats:Array TypeId} {vs:List Value} {R:Value→Prop} {dd:Option Tmp} {b m n:Nat} {J:JW} {t s t' s':Int} {S':Sm} [TF c.P f] (hH:H=A++bJ b J m n t s) (hm:md.aO ns r) (hd:Qw c.n dd=true) (hg:Qi F g=some true) (ha:Zy F args.toList=some vs)
  (hc:∀ w,aG (bJ b J m n t s) w→Calls c.P f vs.toArray w (aQ fun v w'=>JwR b J m n t s t' s' S' w w'∧R v))
  (h:∀ v J',keys (bJ b J' m n t' s')=keys (bJ b J m n t s)→jm J' m n S'→fZ J J'→R v→JO c Q md.spent r (dN F dd v) (A++bJ b J' m n t' s')) :
  JO c Q md (⟨dd,.call ⟨.value (.func f),args,ats⟩,ty,g,.seq,ns⟩::r) F H :=
 XN (A:=A) (N:=bJ b J m n t s) (B:=[]) (by rw[hH,Vh]) hm hd hg ha (R:=fun w v w'=>(∃ J',keys (bJ b J' m n t' s')=keys (bJ b J m n t s)∧InW (bJ b J' m n t' s') w'∧jm J' m n S'∧fZ J J')∧R v)
  (fun w _ hs => (hc w (HSub.aV (by rw [hH]; exact Qf (HSub.refl _)) hs)).mono fun e w' he => by
   cases e with
   | panicked _=>exact he.elim
   | outgrown=>exact he.elim
   | returned v=>exact⟨he.1.1,he.1.2,he.2⟩) (fun w v w' _ _ _ hR=>by
  obtain⟨⟨J',hk,hin,hJ,hf⟩,hv⟩:=hR
  refine⟨bJ b J' m n t' s',hk,hin,?_⟩
  rw[Vh]
  exact h v J' hk hJ hf hv)
end

theorem Q9m (K:Nat) (w:World) (b:Nat) (J:JW) (m n t:Nat) (s:Int) (S:Sm) (x:Int) (hJ:jm J m n S) (hs:aG (bJ b J m n t s) w) (hm:m≤200) (hn:n≤200) (bD:t<m) (htn:t<n) (hK:K≤8000000000) (hb:gZ K S.d=true) (hx:x.natAbs<256 ^ K) (hp:gE S.d t t≠0) :
  Calls Tryz.prog 132 #[.pointer (some ⟨b,0,none⟩),Wv x] w (aQ fun v w'=>Kp [] w w'∧v=Wv (-(x / gE S.d t t))):=by
 have hM:=QK hs
 refine Qa [⟨1,3,[],[]⟩] (keys (bJ b J m n t s)) hM (bJ b J m n t s) Tryz.func132 rfl mixed (by kernel_rfl) Tryz.ntmps132 Tryz.results132 rfl hs (fun p hp=>List.mem_map.2 ⟨p,hp,rfl⟩) ?_
 simp only[toS,Qe,Qx,Qo,Qr,ay,Ql,Qy,aB]
 unfold bJ iq
 repeat' first|apply jS|apply jO|apply jD|apply jN|refine Q1 ?_|refine Q2 ?_|refine Q7 ?_|refine Qm ?_|refine Q3 ?_|refine Qh fun _=>?_|refine QM (h:=fun _=>?_)|apply jT
 refine Q9 au rfl aF rfl (fun w _ hs=>YO w b J m n t s S t t hJ ((HSub.skip (HSub.skip (HSub.refl _))).aV hs) bD htn hm hn) fun w v w' _ _ _ hR=>?_
 subst hR
 skip
 refine Q9 au rfl aF rfl (fun w _ _=>Q8f w _ _ x (gE S.d t t) K (QC hx) (QC (QT hb _ _)) oq) fun w v w' _ _ _ hR=>?_
 rw[if_neg hp]at hR
 subst hR
 repeat' first|apply jS|apply jO|apply jN|refine Q1 ?_|refine Q0 ?_|refine Qm ?_|refine Qu (h:=?_)|refine Q6 ?_|refine Qh fun _=>?_|refine Q6 ?_|apply jT
 refine Q9 au rfl aF rfl (fun w _ _=>Q4d w _ (x / gE S.d t t) K (QC (V5 (Int.natAbs_ediv_le_natAbs _ _) hx)) oq) fun w v w' _ _ _ hR=>?_
 subst hR
 repeat' first|apply jN|apply jT|refine Q6 ?_|refine Q6 ?_|apply jR
 exact Z0 2 rfl rfl rfl (fun a w' st=>⟨Z3 hs st.kp (fun p hp=>st.hs.blk p (Vc _ (Vc _ (Vc _ (Vc _ hp))))),rfl⟩)

theorem Qgp (K:Nat) (w:World) (b:Nat) (J:JW) (m n t:Nat) (s:Int) (S:Sm) (hJ:jm J m n S) (hD:Dm m n S) (hs:aG (bJ b J m n t s) w) (hm:m≤200) (hn:n≤200) (bD:t≤m) (htn:t≤n) (hK:K≤8000000000) (hb:Ok K S) (hl:(Qv S t m n).2.2=true) :
  Calls Tryz.prog 65 #[.pointer (some ⟨b,0,none⟩)] w (aQ fun v w'=>JwR b J m n t s t s (S.ex (Qv S t m n).1 (Qv S t m n).2.1 t) w w'∧v=.bool (decide ((Qv S t m n).1≠t∨(Qv S t m n).2.1≠t))):=by
 have hM:=QK hs
 refine Qa [⟨3,1,[],[]⟩,⟨4,1,[],[]⟩,⟨5,1,[],[]⟩,⟨7,1,[],[]⟩,⟨8,1,[],[]⟩,⟨9,1,[],[]⟩] (keys (bJ b J m n t s)) hM (bJ b J m n t s) Tryz.func65 rfl mixed (by kernel_rfl) Tryz.ntmps65 Tryz.results65 rfl hs (fun p hp=>List.mem_map.2 ⟨p,hp,rfl⟩) ?_
 simp only[toS,Qe,Qx,Qo,Qr,ay,Ql,Qy,aB]
 repeat' first|apply jS|apply jO|apply jN|refine Q1 ?_|refine Q0 ?_|apply jT
 refine Q9 au rfl aF rfl (fun w _ hs=>Q74 K w b J m n t s S hJ hs hm hn bD htn oq hb.d) fun w v w' _ _ _ hR=>?_
 obtain⟨⟨l1,l2,l3,l4⟩,_⟩:=X7 hl
 obtain⟨r,hr⟩:∃ r,r=(Qv S t m n).1:=⟨_,rfl⟩
 obtain⟨q,hq⟩:∃ q,q=(Qv S t m n).2.1:=⟨_,rfl⟩
 rw[show iD (Qv S t m n)=nv r by unfold iD;rw[if_pos hl,hr],show iM (Qv S t m n)=nv q by unfold iM;rw[if_pos hl,hq],hl]at hR
 rw[← hr]at l1 l2
 rw[← hq]at l3 l4
 rw[← hr, ← hq]
 subst hR
 have bK:t<m:=by omega
 have cZ:t<n:=by omega
 unfold bJ iq
 by_cases hrt:r=t
 ·rw[hrt]at l1 l2 ⊢
  by_cases hqt:q=t
  ·rw[hqt]at l3 l4 ⊢
   have h0:=hJ.o
   repeat' first|apply jS|apply jO|apply jN|apply jT|refine Q1 ?_|refine Q2 ?_|refine Q0 ?_|refine Q7 ?_|refine Qq ?_|refine Q3 ?_|refine Qu (h:=?_)|(refine ZP (h1:=?_) (h2:=?_)<;>intro hc<;>try omega)|apply jK|apply jR|refine Q4 rfl ?_
   all_goals first
    | (exfalso;omega)
    | skip
   rw[Qk (fun a b' _ _=>Wa (t:=t) hD.d bK)]at h0
   rw[Qk (fun a b' _ _=>Wa (t:=t) hD.u bK)]at h0
   rw[Qk (fun a b' ha _=>Wc (t:=t) hD.ui bK ha)]at h0
   rw[Qk (fun a b' ha _=>Wc (t:=t) (hD.d.eY bK bK) cZ ha)]at h0
   rw[Qk (fun a b' ha _=>Wc (t:=t) hD.v cZ ha)]at h0
   rw[Qk (fun a b' _ _=>Wa (t:=t) hD.vi cZ)]at h0
   have hdec:decide (t≠t∨t≠t)=false:=decide_eq_false aA
   rw[hdec]
   exact Qj rfl (fun a w' st=>⟨⟨st.kp,{ J with N:=J.N },Q0e (hJ.ky hJ.o h0),fun p hp=>st.hs.blk p hp,hJ.turn h0,⟨_,rfl⟩⟩,rfl⟩)
  ·skip
   have h0:=hJ.o
   repeat' first|apply jS|apply jO|apply jD|apply jN|apply jT|refine Q1 ?_|refine Q2 ?_|refine Q0 ?_|refine Q7 ?_|refine Q3 ?_|refine Qu (h:=?_)|(refine ZP (h1:=?_) (h2:=?_)<;>intro hc<;>try omega)|apply jK|refine Q5 rfl ?_|refine Q4 rfl ?_
   all_goals first
    | (exfalso;omega)
    | skip
   rw[Qk (fun a b' _ _=>Wa (t:=t) hD.d bK)]at h0
   rw[Qk (fun a b' _ _=>Wa (t:=t) hD.u bK)]at h0
   rw[Qk (fun a b' ha _=>Wc (t:=t) hD.ui bK ha)]at h0
   refine QB 0 rfl rfl rfl rfl rfl rfl rfl rfl ?_
   repeat' first|refine Q1 ?_|refine Q2 ?_|refine Q7 ?_|refine Q3 ?_|fail
   refine ZN (A:=[_]) (N:=J.N) (B:=[]) rfl au rfl aF rfl (fun w hs=>Yp w J.d.A J.d.c _ J.N m n q t (gE (eY t t S.d)) (hJ.wd _ _ _ _) h0 hs l4 cZ hm hn) (fun _ h=>hJ.ky h0 h) (fun u N1 h1=>?_)
   rw[Qk (fun a b' ha _=>Q2k (hD.d.eY bK bK) l4 cZ ha)]at h1
   repeat' first|apply jS|apply jD|apply jN|refine Q1 ?_|refine Q2 ?_|refine Q3 ?_|apply jT
   all_goals first
    | (exfalso;omega)
    | skip
   refine QB 0 rfl rfl rfl rfl rfl rfl rfl rfl ?_
   repeat' first|refine Q1 ?_|refine Q2 ?_|refine Q7 ?_|refine Q3 ?_|fail
   refine ZN (A:=[_]) (N:=N1) (B:=[]) rfl au rfl aF rfl (fun w hs=>Yp w J.v.A J.v.c _ N1 n n q t (gE S.v) (hJ.wv _ _ _ _) h1 hs l4 cZ hn hn) (fun _ h=>hJ.ky h1 h) (fun u N2 h2=>?_)
   rw[Qk (fun a b' ha _=>Q2k hD.v l4 cZ ha)]at h2
   repeat' first|apply jD|apply jN|refine Q1 ?_|refine Q2 ?_|refine Q3 ?_|apply jT
   all_goals first
    | (exfalso;omega)
    | skip
   refine QB 0 rfl rfl rfl rfl rfl rfl rfl rfl ?_
   repeat' first|refine Q1 ?_|refine Q2 ?_|refine Q7 ?_|refine Q3 ?_|fail
   refine ZN (A:=[_]) (N:=N2) (B:=[]) rfl au rfl aF rfl (fun w hs=>Yo w J.vi.A J.vi.c _ N2 n n q t (gE S.vi) (hJ.wvi _ _ _ _) h2 hs l4 cZ hn hn) (fun _ h=>hJ.ky h2 h) (fun u N3 h3=>?_)
   rw[Qk (fun a b' _ hb'=>Q2j hD.vi l4 cZ hb')]at h3
   repeat' first|apply jS|apply jO|apply jN|apply jT|refine Q1 ?_|refine Q2 ?_|refine Q0 ?_|refine Q7 ?_|refine Qq ?_|refine Q3 ?_|(refine ZP (h1:=?_) (h2:=?_)<;>intro hc<;>try omega)|apply jR
   all_goals first
    | (exfalso;omega)
    | skip
   have hdec:decide (t≠t∨q≠t)=true:=decide_eq_true (.inr hqt)
   rw[hdec]
   exact Qj rfl (fun a w' st=>⟨⟨st.kp,{ J with N:=N3 },Q0e (hJ.ky hJ.o h3),fun p hp=>st.hs.blk p hp,hJ.turn h3,⟨_,rfl⟩⟩,rfl⟩)
 ·skip
  by_cases hqt:q=t
  ·rw[hqt]at l3 l4 ⊢
   have h0:=hJ.o
   repeat' first|apply jS|apply jO|apply jD|apply jN|apply jT|refine Q1 ?_|refine Q2 ?_|refine Q0 ?_|refine Q7 ?_|refine Q3 ?_|refine Qu (h:=?_)|(refine ZP (h1:=?_) (h2:=?_)<;>intro hc<;>try omega)|refine Q5 rfl ?_
   all_goals first
    | (exfalso;omega)
    | skip
   refine QB 0 rfl rfl rfl rfl rfl rfl rfl rfl ?_
   repeat' first|refine Q1 ?_|refine Q2 ?_|refine Q7 ?_|refine Q3 ?_|fail
   refine ZN (A:=[_]) (N:=J.N) (B:=[]) rfl au rfl aF rfl (fun w hs=>Yo w J.d.A J.d.c _ J.N m n r t (gE S.d) (hJ.wd _ _ _ _) h0 hs l2 bK hm hn) (fun _ h=>hJ.ky h0 h) (fun u N1 h1=>?_)
   rw[Qk (fun a b' _ hb'=>Q2j hD.d l2 bK hb')]at h1
   repeat' first|apply jS|apply jD|apply jN|refine Q1 ?_|refine Q2 ?_|refine Q3 ?_|apply jT
   all_goals first
    | (exfalso;omega)
    | skip
   refine QB 0 rfl rfl rfl rfl rfl rfl rfl rfl ?_
   repeat' first|refine Q1 ?_|refine Q2 ?_|refine Q7 ?_|refine Q3 ?_|fail
   refine ZN (A:=[_]) (N:=N1) (B:=[]) rfl au rfl aF rfl (fun w hs=>Yo w J.u.A J.u.c _ N1 m m r t (gE S.u) (hJ.wu _ _ _ _) h1 hs l2 bK hm hm) (fun _ h=>hJ.ky h1 h) (fun u N2 h2=>?_)
   rw[Qk (fun a b' _ hb'=>Q2j hD.u l2 bK hb')]at h2
   repeat' first|apply jD|apply jN|refine Q1 ?_|refine Q2 ?_|refine Q3 ?_|apply jT
   all_goals first
    | (exfalso;omega)
    | skip
   refine QB 0 rfl rfl rfl rfl rfl rfl rfl rfl ?_
   repeat' first|refine Q1 ?_|refine Q2 ?_|refine Q7 ?_|refine Q3 ?_|fail
   refine ZN (A:=[_]) (N:=N2) (B:=[]) rfl au rfl aF rfl (fun w hs=>Yp w J.ui.A J.ui.c _ N2 m m r t (gE S.ui) (hJ.wui _ _ _ _) h2 hs l2 bK hm hm) (fun _ h=>hJ.ky h2 h) (fun u N3 h3=>?_)
   rw[Qk (fun a b' ha _=>Q2k hD.ui l2 bK ha)]at h3
   repeat' first|apply jS|apply jO|apply jN|apply jT|refine Q1 ?_|refine Q2 ?_|refine Q0 ?_|refine Q7 ?_|refine Qp ?_|refine Q3 ?_|(refine ZP (h1:=?_) (h2:=?_)<;>intro hc<;>try omega)|apply jK|refine Q4 rfl ?_|refine QA ?_|apply jR
   all_goals first
    | (exfalso;omega)
    | skip
   rw[Qk (fun a b' ha _=>Wc (t:=t) (hD.d.eY l2 bK) cZ ha)]at h3
   rw[Qk (fun a b' ha _=>Wc (t:=t) hD.v cZ ha)]at h3
   rw[Qk (fun a b' _ _=>Wa (t:=t) hD.vi cZ)]at h3
   have hdec:decide (r≠t∨t≠t)=true:=decide_eq_true (.inl hrt)
   rw[hdec]
   exact Qj rfl (fun a w' st=>⟨⟨st.kp,{ J with N:=N3 },Q0e (hJ.ky hJ.o h3),fun p hp=>st.hs.blk p hp,hJ.turn h3,⟨_,rfl⟩⟩,rfl⟩)
  ·skip
   have h0:=hJ.o
   repeat' first|apply jS|apply jO|apply jD|apply jN|apply jT|refine Q1 ?_|refine Q2 ?_|refine Q0 ?_|refine Q7 ?_|refine Q3 ?_|refine Qu (h:=?_)|(refine ZP (h1:=?_) (h2:=?_)<;>intro hc<;>try omega)|refine Q5 rfl ?_
   all_goals first
    | (exfalso;omega)
    | skip
   refine QB 0 rfl rfl rfl rfl rfl rfl rfl rfl ?_
   repeat' first|refine Q1 ?_|refine Q2 ?_|refine Q7 ?_|refine Q3 ?_|fail
   refine ZN (A:=[_]) (N:=J.N) (B:=[]) rfl au rfl aF rfl (fun w hs=>Yo w J.d.A J.d.c _ J.N m n r t (gE S.d) (hJ.wd _ _ _ _) h0 hs l2 bK hm hn) (fun _ h=>hJ.ky h0 h) (fun u N1 h1=>?_)
   rw[Qk (fun a b' _ hb'=>Q2j hD.d l2 bK hb')]at h1
   repeat' first|apply jS|apply jD|apply jN|refine Q1 ?_|refine Q2 ?_|refine Q3 ?_|apply jT
   all_goals first
    | (exfalso;omega)
    | skip
   refine QB 0 rfl rfl rfl rfl rfl rfl rfl rfl ?_
   repeat' first|refine Q1 ?_|refine Q2 ?_|refine Q7 ?_|refine Q3 ?_|fail
   refine ZN (A:=[_]) (N:=N1) (B:=[]) rfl au rfl aF rfl (fun w hs=>Yo w J.u.A J.u.c _ N1 m m r t (gE S.u) (hJ.wu _ _ _ _) h1 hs l2 bK hm hm) (fun _ h=>hJ.ky h1 h) (fun u N2 h2=>?_)
   rw[Qk (fun a b' _ hb'=>Q2j hD.u l2 bK hb')]at h2
   repeat' first|apply jD|apply jN|refine Q1 ?_|refine Q2 ?_|refine Q3 ?_|apply jT
   all_goals first
    | (exfalso;omega)
    | skip
   refine QB 0 rfl rfl rfl rfl rfl rfl rfl rfl ?_
   repeat' first|refine Q1 ?_|refine Q2 ?_|refine Q7 ?_|refine Q3 ?_|fail
   refine ZN (A:=[_]) (N:=N2) (B:=[]) rfl au rfl aF rfl (fun w hs=>Yp w J.ui.A J.ui.c _ N2 m m r t (gE S.ui) (hJ.wui _ _ _ _) h2 hs l2 bK hm hm) (fun _ h=>hJ.ky h2 h) (fun u N3 h3=>?_)
   rw[Qk (fun a b' ha _=>Q2k hD.ui l2 bK ha)]at h3
   repeat' first|apply jS|apply jO|apply jD|apply jN|apply jT|refine Q1 ?_|refine Q2 ?_|refine Q7 ?_|refine Q3 ?_|(refine ZP (h1:=?_) (h2:=?_)<;>intro hc<;>try omega)|refine Q5 rfl ?_
   all_goals first
    | (exfalso;omega)
    | skip
   refine QB 0 rfl rfl rfl rfl rfl rfl rfl rfl ?_
   repeat' first|refine Q1 ?_|refine Q2 ?_|refine Q7 ?_|refine Q3 ?_|fail
   refine ZN (A:=[_]) (N:=N3) (B:=[]) rfl au rfl aF rfl (fun w hs=>Yp w J.d.A J.d.c _ N3 m n q t (gE (eY r t S.d)) (hJ.wd _ _ _ _) h3 hs l4 cZ hm hn) (fun _ h=>hJ.ky h3 h) (fun u N4 h4=>?_)
   rw[Qk (fun a b' ha _=>Q2k (hD.d.eY l2 bK) l4 cZ ha)]at h4
   repeat' first|apply jS|apply jD|apply jN|refine Q1 ?_|refine Q2 ?_|refine Q3 ?_|apply jT
   all_goals first
    | (exfalso;omega)
    | skip
   refine QB 0 rfl rfl rfl rfl rfl rfl rfl rfl ?_
   repeat' first|refine Q1 ?_|refine Q2 ?_|refine Q7 ?_|refine Q3 ?_|fail
   refine ZN (A:=[_]) (N:=N4) (B:=[]) rfl au rfl aF rfl (fun w hs=>Yp w J.v.A J.v.c _ N4 n n q t (gE S.v) (hJ.wv _ _ _ _) h4 hs l4 cZ hn hn) (fun _ h=>hJ.ky h4 h) (fun u N5 h5=>?_)
   rw[Qk (fun a b' ha _=>Q2k hD.v l4 cZ ha)]at h5
   repeat' first|apply jD|apply jN|refine Q1 ?_|refine Q2 ?_|refine Q3 ?_|apply jT
   all_goals first
    | (exfalso;omega)
    | skip
   refine QB 0 rfl rfl rfl rfl rfl rfl rfl rfl ?_
   repeat' first|refine Q1 ?_|refine Q2 ?_|refine Q7 ?_|refine Q3 ?_|fail
   refine ZN (A:=[_]) (N:=N5) (B:=[]) rfl au rfl aF rfl (fun w hs=>Yo w J.vi.A J.vi.c _ N5 n n q t (gE S.vi) (hJ.wvi _ _ _ _) h5 hs l4 cZ hn hn) (fun _ h=>hJ.ky h5 h) (fun u N6 h6=>?_)
   rw[Qk (fun a b' _ hb'=>Q2j hD.vi l4 cZ hb')]at h6
   repeat' first|apply jS|apply jO|apply jN|apply jT|refine Q1 ?_|refine Q2 ?_|refine Q0 ?_|refine Q7 ?_|refine Qp ?_|refine Q3 ?_|(refine ZP (h1:=?_) (h2:=?_)<;>intro hc<;>try omega)|refine QA ?_|apply jR
   all_goals first
    | (exfalso;omega)
    | skip
   have hdec:decide (r≠t∨q≠t)=true:=decide_eq_true (.inl hrt)
   rw[hdec]
   exact Qj rfl (fun a w' st=>⟨⟨st.kp,{ J with N:=N6 },Q0e (hJ.ky hJ.o h6),fun p hp=>st.hs.blk p hp,hJ.turn h6,⟨_,rfl⟩⟩,rfl⟩)

end Go.Proofs.YtbofgpenopcfaaaGreatDoor

