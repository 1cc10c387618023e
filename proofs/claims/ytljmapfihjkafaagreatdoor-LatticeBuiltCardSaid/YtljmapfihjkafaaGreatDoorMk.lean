import Derived.Test.YtljmapfihjkafaaGreatDoorMj
set_option maxHeartbeats 16000000
namespace Go.Proofs.YtljmapfihjkafaaGreatDoor
open Go Go.RowKit
set_option linter.unusedSimpArgs false
set_option linter.unusedVariables false
set_option linter.unusedSectionVars false

theorem Qgz {x y:Nat × Obj} {M1 M2 M3 M4 M5 R:aj}:HSub (M1++(M2++(M3++(M4++M5)))) (x::y::(M5++(M4++(M3++(M2++(M1++R)))))):=by
 refine HSub.skip (HSub.skip ⟨R,?_⟩)
 classical
 rw[List.perm_iff_count]
 intro x
 simp only[List.count_append]
 omega
theorem Q4a {K t m n f:Nat} {S S':Sm} (h:XI K t m n (f+1) S=some S') (hl:(ZL S t m n).2.2=false):S'=S:=by
 rw[XI,if_pos hl]at h
 exact(Option.some.inj h).symm

theorem Qpq (K f:Nat) (w:World) (v:Value) (a:ZM) (S':Sm) (ha:cO a) (hv:fO w v a) (hK:K+1≤220000000000) (hb:cZ (K+1) a)
  (hf:Q1p (K+1) f a.r a.c (min a.r a.c) 0 (QY a.r a.c (QZ a))=some S') :
  Calls Tryz.prog 52 #[v] w (aP fun v w'=>Kp [] w w'∧Qjh a.r a.c S' w v w'):=by
 have hv0:=hv
 obtain⟨E,rfl,hE⟩:=hv
 have hle:=ha.le
 have hr:=ha.r
 have hac:=ha.c
 refine Q9 [⟨6,1,[0,2,4,6,8,1,3,5,7,9,10,11,12],[]⟩,⟨21,1,[0,1,2,3,4,5,7,8,9,10,11,12,14,15,16,17,18,19,21,22,23,24,25,26,28,29,30,31,32,33,6,13,20,27,34,35,36],[]⟩] [] au [] Tryz.func52 rfl mixed (by kernel_rfl) Tryz.ntmps52 Tryz.results52 rfl ⟨by simp,by simp⟩ au ?_
 simp only[toS,Qd,Qt,Qk,Ql,ay,Qg,QA,aC]
 repeat' first|apply jS|apply jO|apply jN|refine Q7 ?_|refine Qc fun _=>?_|refine QB fun _=>?_|apply jT
 rename_i b1 b2
 refine Q5 aA rfl aH rfl (fun w hk hs=>ZY w _ a.xm (hv0.mono hk).x (by show (a.e.map wz).length<_;rw[List.length_map];omega)) fun w v w' _ _ _ hR=>?_
 obtain⟨t,rfl,ht⟩:=hR
 obtain rfl:t=true:=ht.2 ha.rx
 repeat' first|apply jS|apply jO|apply jN|apply jT|refine Q1 ?_|refine Q3 ?_|refine Q0 ?_|refine Qb ?_|refine QV (h:=?_)|apply jK|refine Q4 rfl ?_
 refine Qf (A:=[_,_]) (B:=[]) rfl aA rfl aH rfl (fun w hk hs=>Q88 a.r hr w) fun w v w' _ _ _ hR=>?_
 obtain⟨Nm,hNm,Em,rfl,hOm⟩:=hR
 obtain⟨Am,cm,rfl⟩:=hOm.form
 refine⟨Nm,hNm,?_⟩
 repeat' first|refine Q2 ?_|refine Qc fun _=>?_|refine Q2 ?_|apply jN
 rename_i b4
 apply QE
 repeat' first|apply jS|refine Q3 ?_|refine Qb ?_|apply jO
 refine Qf (A:=[_,_,_]) (B:=Nm++[]) rfl aA rfl aH rfl (fun w hk hs=>Q88 a.c hac w) fun w v w' _ _ _ hR=>?_
 obtain⟨Nn,hNn,En,rfl,hOn⟩:=hR
 obtain⟨An,cn,rfl⟩:=hOn.form
 refine⟨Nn,hNn,?_⟩
 repeat' first|refine Q2 ?_|refine Qc fun _=>?_|refine Q2 ?_|apply jN
 rename_i b5
 refine JX.part (F':=[(5,.pointer (some ⟨b5,0,none⟩)),(4,.pointer (some ⟨b4,0,none⟩)),(2,.pointer (some ⟨b2,0,none⟩)),(1,.pointer (some ⟨b1,0,none⟩))]) (H':=[(b5,.cells #[nv a.c,nv a.c,.slice An (gy a.c).e.length cn] 26),(b4,.cells #[nv a.r,nv a.r,.slice Am (gy a.r).e.length cm] 26),(b2,.cells (fH) 74),(b1,.cells #[nv a.r,nv a.c,E] 26)]++(Nn++(Nm++[]))) aF QK ?_
 apply QE
 repeat' first|apply jS|refine Q7 ?_|apply jD
 refine Qf (A:=[_,_,_,_]) (B:=Nn++(Nm++([]))) rfl aA rfl aH rfl (fun w hk hs=>Q5d w _ (gy a.r) (Xg hr hr) ⟨_,rfl,hOm.rd.at hk hs Q6⟩) fun w v w' _ _ _ hR=>?_
 obtain⟨Nu,tu,hNu,jL,hLu⟩:=hR
 obtain⟨Au,cu,rfl⟩:=jL.form
 refine⟨Nu++tH tu,hNu,?_⟩
 skip
 refine Qf (A:=[_,_,_,_]) (B:=(Nu++tH tu)++(Nn++(Nm++([])))) rfl aA rfl aH rfl (fun w hk hs=>Q5d w _ (gy a.r) (Xg hr hr) ⟨_,rfl,hOm.rd.at hk hs Q6⟩) fun w v w' _ _ _ hR=>?_
 obtain⟨Ni,ti,hNi,hTi,hLi⟩:=hR
 obtain⟨Ai,ci,rfl⟩:=hTi.form
 refine⟨Ni++tH ti,hNi,?_⟩
 skip
 refine Qf (A:=[_,_,_,_]) (B:=(Ni++tH ti)++((Nu++tH tu)++(Nn++(Nm++([]))))) rfl aA rfl aH rfl (fun w hk hs=>Q5d w _ a ha (hv0.mono hk)) fun w v w' _ _ _ hR=>?_
 obtain⟨Nd,td,hNd,hTd,hLd⟩:=hR
 obtain⟨Ad,cd,rfl⟩:=hTd.form
 refine⟨Nd++tH td,hNd,?_⟩
 skip
 refine Qf (A:=[_,_,_,_]) (B:=(Nd++tH td)++((Ni++tH ti)++((Nu++tH tu)++(Nn++(Nm++([])))))) rfl aA rfl aH rfl (fun w hk hs=>Q5d w _ (gy a.c) (Xg hac hac) ⟨_,rfl,hOn.rd.at hk hs Q6⟩) fun w v w' _ _ _ hR=>?_
 obtain⟨Nx,tx,hNx,hTx,hLx⟩:=hR
 obtain⟨Ax,cx,rfl⟩:=hTx.form
 refine⟨Nx++tH tx,hNx,?_⟩
 skip
 refine Qf (A:=[_,_,_,_]) (B:=(Nx++tH tx)++((Nd++tH td)++((Ni++tH ti)++((Nu++tH tu)++(Nn++(Nm++([]))))))) rfl aA rfl aH rfl (fun w hk hs=>Q5d w _ (gy a.c) (Xg hac hac) ⟨_,rfl,hOn.rd.at hk hs Q6⟩) fun w v w' _ _ _ hR=>?_
 obtain⟨Nj,tj,hNj,hTj,hLj⟩:=hR
 obtain⟨Aj,cj,rfl⟩:=hTj.form
 refine⟨Nj++tH tj,hNj,?_⟩
 skip
 refine ZP (l:=[(0,.slice Au tu.length cu),(1,.slice Ai ti.length ci),(2,.slice Ad td.length cd),(3,.slice Ax tx.length cx),(4,.slice Aj tj.length cj)]) (cs:=#[.slice Au tu.length cu,.slice Ai ti.length ci,.slice Ad td.length cd,.slice Ax tx.length cx,.slice Aj tj.length cj]) rfl rfl rfl rfl ?_
 repeat' first|refine Q0 ?_|refine QB fun _=>?_|apply jN
 rename_i eY
 obtain⟨W,hWd⟩:∃ W:WV,W=⟨.slice Au tu.length cu,.slice Ai ti.length ci,.slice Ad td.length cd,.slice Ax tx.length cx,.slice Aj tj.length cj,Nu,Ni,Nd,Nx,Nj⟩:=⟨_,rfl⟩
 obtain⟨T,hTd'⟩:∃ T:WT,T=⟨tu,ti,td,tx,tj⟩:=⟨_,rfl⟩
 have hW:dw W a.r a.c T (QY a.r a.c (QZ a)):=by
  subst hWd hTd'
  have hln:∀ {n:Nat} {g:Nat→List Int} {ts:List TR},ts.map (·.2.2)=(List.range n).map g→ts.length=n:=fun h=>by simpa using congrArg List.length h
  exact⟨⟨jL,hln hLu,hLu.trans (Ys hr)⟩,⟨hTi,hln hLi,hLi.trans (Ys hr)⟩,⟨hTd,hln hLd,hLd⟩,⟨hTx,hln hLx,hLx.trans (Ys hac)⟩,⟨hTj,hln hLj,hLj.trans (Ys hac)⟩⟩
 refine JX.part (F':=[(6,.pointer (some ⟨eY,0,none⟩)),(2,.pointer (some ⟨b2,0,none⟩)),(1,.pointer (some ⟨b1,0,none⟩))]) (H':=[(b2,.cells fH 74),(b1,.cells #[nv a.r,nv a.c,E] 26)]++(bf eY W T++[])) aF ?_ ?_
 ·subst hWd hTd'
  exact⟨_,Q65 (a:=[_]) (b4:=[_]) (b3:=[_]) (b2:=[_]) (b1:=[_])⟩
 have hb0:=Yi ha hb
 clear jL hTi hTd hTx hTj hLu hLi hLd hLx hLj hOm hOn hWd hTd' hNu hNi hNd hNx hNj
 apply QE
 repeat' first|apply jS|apply jO|apply jN|refine Q0 ?_|apply jT
 refine Qn7 (ι:=WT) (fun _=>[(6,.pointer (some ⟨eY,0,none⟩)),(2,.pointer (some ⟨b2,0,none⟩)),(1,.pointer (some ⟨b1,0,none⟩))]) (fun T=>[(b2,.cells fH 74),(b1,.cells #[nv a.r,nv a.c,E] 26)]++((eY,.cells W.bZ 125)::(W.Nu++(tH T.u++(W.fB++(tH T.ui++(W.Nd++(tH T.d++(W.Nv++(tH T.v++(W.fG++(tH T.vi++[])))))))))))) (fun T=>dw W a.r a.c T S') (fun T hW=>?_) (fun rest=>?_)
 ·clear hf hb0
  apply QE
  repeat' first|apply jS|refine Q1 ?_|refine Q3 ?_|refine Qb ?_|refine Qz (h:=?_)|apply jD
  refine Qf (A:=[_,_]) (B:=((eY,.cells W.bZ 125)::(W.Nu++(tH T.u++(W.fB++(tH T.ui++(W.Nd++(tH T.d++(W.Nv++(tH T.v++(W.fG++(tH T.vi++[])))))))))))) rfl aA rfl aH rfl (fun w hk hs=>Q9w w _ a.r a.r S'.u (hW.u.g hk hs Q6 Q6) hW.u.rc hr hr) fun w v w' _ _ _ hR=>?_
  obtain⟨M1,hM1,E1,rfl,bT⟩:=hR
  obtain⟨A1,c1,rfl⟩:=bT.form
  refine⟨M1,hM1,?_⟩
  skip
  refine Qf (A:=[_,_]) (B:=M1++(((eY,.cells W.bZ 125)::(W.Nu++(tH T.u++(W.fB++(tH T.ui++(W.Nd++(tH T.d++(W.Nv++(tH T.v++(W.fG++(tH T.vi++[]))))))))))))) rfl aA rfl aH rfl (fun w hk hs=>Q9w w _ a.r a.r S'.ui (hW.ui.g hk hs Q6 Q6) hW.ui.rc hr hr) fun w v w' _ _ _ hR=>?_
  obtain⟨M2,hM2,E2,rfl,hO2⟩:=hR
  obtain⟨A2,c2,rfl⟩:=hO2.form
  refine⟨M2,hM2,?_⟩
  skip
  refine Qf (A:=[_,_]) (B:=M2++(M1++(((eY,.cells W.bZ 125)::(W.Nu++(tH T.u++(W.fB++(tH T.ui++(W.Nd++(tH T.d++(W.Nv++(tH T.v++(W.fG++(tH T.vi++[])))))))))))))) rfl aA rfl aH rfl (fun w hk hs=>Q9w w _ a.r a.c S'.d (hW.d.g hk hs Q6 Q6) hW.d.rc hr hac) fun w v w' _ _ _ hR=>?_
  obtain⟨M3,hM3,E3,rfl,hO3⟩:=hR
  obtain⟨A3,c3,rfl⟩:=hO3.form
  refine⟨M3,hM3,?_⟩
  skip
  refine Qf (A:=[_,_]) (B:=M3++(M2++(M1++(((eY,.cells W.bZ 125)::(W.Nu++(tH T.u++(W.fB++(tH T.ui++(W.Nd++(tH T.d++(W.Nv++(tH T.v++(W.fG++(tH T.vi++[]))))))))))))))) rfl aA rfl aH rfl (fun w hk hs=>Q9w w _ a.c a.c S'.v (hW.v.g hk hs Q6 Q6) hW.v.rc hac hac) fun w v w' _ _ _ hR=>?_
  obtain⟨M4,hM4,E4,rfl,hO4⟩:=hR
  obtain⟨A4,c4,rfl⟩:=hO4.form
  refine⟨M4,hM4,?_⟩
  skip
  refine Qf (A:=[_,_]) (B:=M4++(M3++(M2++(M1++(((eY,.cells W.bZ 125)::(W.Nu++(tH T.u++(W.fB++(tH T.ui++(W.Nd++(tH T.d++(W.Nv++(tH T.v++(W.fG++(tH T.vi++[])))))))))))))))) rfl aA rfl aH rfl (fun w hk hs=>Q9w w _ a.c a.c S'.vi (hW.vi.g hk hs Q6 Q6) hW.vi.rc hac hac) fun w v w' _ _ _ hR=>?_
  obtain⟨M5,hM5,E5,rfl,iL⟩:=hR
  obtain⟨A5,c5,rfl⟩:=iL.form
  refine⟨M5,hM5,?_⟩
  skip
  refine ZP (l:=[(0,.agg #[nv a.r,nv a.r,.slice A1 (gM a.r a.r S'.u).e.length c1]),(1,.agg #[nv a.r,nv a.r,.slice A2 (gM a.r a.r S'.ui).e.length c2]),(2,.agg #[nv a.r,nv a.c,.slice A3 (gM a.r a.c S'.d).e.length c3]),(3,.agg #[nv a.c,nv a.c,.slice A4 (gM a.c a.c S'.v).e.length c4]),(4,.agg #[nv a.c,nv a.c,.slice A5 (gM a.c a.c S'.vi).e.length c5])]) (cs:=smC a.r a.c (.slice A1 (gM a.r a.r S'.u).e.length c1) (.slice A2 (gM a.r a.r S'.ui).e.length c2) (.slice A3 (gM a.r a.c S'.d).e.length c3) (.slice A4 (gM a.c a.c S'.v).e.length c4) (.slice A5 (gM a.c a.c S'.vi).e.length c5)) rfl rfl rfl (by kernel_rfl) ?_
  repeat' first|apply jN|apply jT|refine Q2 ?_|refine Q2 ?_|apply jR
  exact QQ 0 rfl rfl rfl (fun a w' st=>⟨st.kp,M1,M2,M3,M4,M5,_,_,_,_,_,rfl,⟨hW.u.rc,hW.ui.rc,hW.d.rc,hW.v.rc,hW.vi.rc⟩,st.aS rfl (by exact Qgz),Q0f hW.u.rc bT,Q0f hW.ui.rc hO2,Q0f hW.d.rc hO3,Q0f hW.v.rc hO4,Q0f hW.vi.rc iL⟩)
 refine JC.block ?_
 refine Qp (ι:=Nat × Sm × WT) ⟨fun z=>[(7,nv z.1),(6,.pointer (some ⟨eY,0,none⟩)),(2,.pointer (some ⟨b2,0,none⟩)),(1,.pointer (some ⟨b1,0,none⟩))],fun z=>[(b2,.cells fH 74),(b1,.cells #[nv a.r,nv a.c,E] 26)]++((eY,.cells W.bZ 125)::(W.Nu++(tH z.2.2.u++(W.fB++(tH z.2.2.ui++(W.Nd++(tH z.2.2.d++(W.Nv++(tH z.2.2.v++(W.fG++(tH z.2.2.vi++[]))))))))))),fun z=>z.1≤min a.r a.c∧dw W a.r a.c z.2.2 z.2.1∧Ok (K+1) z.2.1∧Q1p (K+1) f a.r a.c (min a.r a.c-z.1) z.1 z.2.1=some S',fun z=>min a.r a.c-z.1⟩ (0,QY a.r a.c (QZ a),T) ⟨V9 _,hW,hb0,by rw[Nat.sub_zero];exact hf⟩ aF (by simp only[bf,Vi,Vv,Vd,Vj];exact HSub.refl _) (fun z hz=>?_)
 clear hW hb0 hf
 obtain⟨t,S,T⟩:=z
 obtain⟨htl,hW,hb0,hf⟩:=hz
 dsimp only at htl hW hb0 hf ⊢
 by_cases htk:t<min a.r a.c
 ·have gB:t<a.r:=by omega
  have htn:t<a.c:=by omega
  obtain⟨S2,hst,hrest⟩:=Q6g (show Q1p (K+1) f a.r a.c (min a.r a.c-(t+1)+1) t S=some S' by rw[show min a.r a.c-(t+1)+1=min a.r a.c-t by omega];exact hf)
  clear hf
  repeat' first|apply jS|apply jO|apply jN|apply jT|refine Q1 ?_|refine Q3 ?_|refine Qb ?_|refine QD (h:=?_)|(refine Qs (h1:=?_) (h2:=?_)<;>intro hc<;>try omega)|apply jK|refine Q8 rfl ?_|apply jB
  refine Qp (ι:=Nat × Sm × WT) ⟨fun z=>[(7,nv t),(6,.pointer (some ⟨eY,0,none⟩)),(2,.pointer (some ⟨b2,0,none⟩)),(1,.pointer (some ⟨b1,0,none⟩))],fun z=>[(b2,.cells fH 74),(b1,.cells #[nv a.r,nv a.c,E] 26)]++((eY,.cells W.bZ 125)::(W.Nu++(tH z.2.2.u++(W.fB++(tH z.2.2.ui++(W.Nd++(tH z.2.2.d++(W.Nv++(tH z.2.2.v++(W.fG++(tH z.2.2.vi++[]))))))))))),fun z=>dw W a.r a.c z.2.2 z.2.1∧Ok (K+1) z.2.1∧XI (K+1) t a.r a.c z.1 z.2.1=some S2,fun z=>z.1⟩ (f,S,T) ⟨hW,hb0,hst⟩ aF (HSub.refl _) (fun z hz=>?_)
  clear hW hb0 hst
  obtain⟨g,S1,T1⟩:=z
  obtain⟨hW1,hb1,hst⟩:=hz
  dsimp only at hW1 hb1 hst ⊢
  cases g with
  | zero=>cases hst
  | succ g =>
  repeat' first|apply jS|apply jO|refine Q1 ?_|apply jB
  refine Z2 (A:=[(b2,.cells fH 74),(b1,.cells #[nv a.r,nv a.c,E] 26)]) (N:=bf eY W T1) (B:=[]) (R:=fun w v w'=>jf eY W a.r a.c T1 S1 w w'∧v=.tuple #[nv (ZL S1 t a.r a.c).1,nv (ZL S1 t a.r a.c).2.1,.bool (ZL S1 t a.r a.c).2.2]) (by simp only[bf,Vi,Vv,Vd,Vj]) aA rfl aH rfl (fun w _ hs=>?_) (fun w1 v1 w2 _ _ hk2 hR=>?_)
  ·have hs1:aI (bf eY W T1) w:=HSub.bU (by exact HSub.skip (HSub.skip (by first|exact HSub.refl _|exact QI|simpa [bf] using HSub.refl _))) hs
   exact QN (Qpu (K+1) w eY W a.r a.c T1 S1 t hW1 hs1 gB htn hr hac hK hb1) fun v w' h=>⟨h.1.1,h⟩
  obtain⟨⟨_,T2,hk3,bH,hW2,_⟩,rfl⟩:=hR
  refine⟨bf eY W T2,hk3,bH,?_⟩
  clear hk3 bH hk2
  clear hW1
  by_cases hfl:(ZL S1 t a.r a.c).2.2=true
  ·obtain⟨Sa,Sb,r,h1,h2,h3,h4,h5⟩:=Q48 hst hfl
   obtain⟨hi,hj⟩:=Qhh hfl
   rw[hfl]
   generalize (ZL S1 t a.r a.c).1=i at *
   generalize (ZL S1 t a.r a.c).2.1=j at *
   have hba:=Qm2 h1 hb1
   have hbb:=Qm3 h2 hba
   have hbr:=Q6m h3 hbb
   clear hst hfl
   repeat' first|apply jS|apply jO|apply jN|apply jT|refine Q1 ?_|refine Q0 ?_|refine QV (h:=?_)|refine Qv (h:=?_)|apply jK|refine Q4 rfl ?_
   refine Z2 (A:=[(b2,.cells fH 74),(b1,.cells #[nv a.r,nv a.c,E] 26)]) (N:=bf eY W T2) (B:=[]) (R:=fun w v w'=>jf eY W a.r a.c T2 Sa w w') (by simp only[bf,Vi,Vv,Vd,Vj]) aA rfl aH rfl (fun w _ hs=>?_) (fun w1 v1 w2 _ _ hk2 hR=>?_)
   ·have hs1:aI (bf eY W T2) w:=HSub.bU (by exact HSub.skip (HSub.skip (by first|exact HSub.refl _|exact QI|simpa [bf] using HSub.refl _))) hs
    exact QN (Qpm K w eY W a.r a.c T2 S1 Sa t i hW2 hs1 gB hi hr hac hK hb1 h1) fun v w' h=>⟨h.1,h⟩
   obtain⟨_,T3,hk3,bH,hW3,_⟩:=hR
   refine⟨bf eY W T3,hk3,bH,?_⟩
   clear hk3 bH hk2
   repeat' first|apply jS|apply jO|apply jN|refine Q1 ?_|apply jT
   refine Z2 (A:=[(b2,.cells fH 74),(b1,.cells #[nv a.r,nv a.c,E] 26)]) (N:=bf eY W T3) (B:=[]) (R:=fun w v w'=>jf eY W a.r a.c T3 Sb w w') (by simp only[bf,Vi,Vv,Vd,Vj]) aA rfl aH rfl (fun w _ hs=>?_) (fun w1 v1 w2 _ _ hk2 hR=>?_)
   ·have hs1:aI (bf eY W T3) w:=HSub.bU (by exact HSub.skip (HSub.skip (by first|exact HSub.refl _|exact QI|simpa [bf] using HSub.refl _))) hs
    exact QN (Qpn K w eY W a.r a.c T3 Sa Sb t j hW3 hs1 htn hj hr hac hK hba h2) fun v w' h=>⟨h.1,h⟩
   obtain⟨_,T4,hk3,bH,hW4,_⟩:=hR
   refine⟨bf eY W T4,hk3,bH,?_⟩
   clear hk3 bH hk2
   repeat' first|apply jS|apply jO|apply jN|refine Q1 ?_|apply jT
   refine Z2 (A:=[(b2,.cells fH 74),(b1,.cells #[nv a.r,nv a.c,E] 26)]) (N:=bf eY W T4) (B:=[]) (R:=fun w v w'=>jf eY W a.r a.c T4 r.1 w w'∧v=.bool r.2) (by simp only[bf,Vi,Vv,Vd,Vj]) aA rfl aH rfl (fun w _ hs=>?_) (fun w1 v1 w2 _ _ hk2 hR=>?_)
   ·have hs1:aI (bf eY W T4) w:=HSub.bU (by exact HSub.skip (HSub.skip (by first|exact HSub.refl _|exact QI|simpa [bf] using HSub.refl _))) hs
    exact QN (Qlg (K+1) w eY W a.r a.c T4 Sb r t hW4 hs1 gB htn hr hac hK hbb h3) fun v w' h=>⟨h.1.1,h⟩
   obtain⟨⟨_,T5,hk3,bH,hW5,_⟩,rfl⟩:=hR
   refine⟨bf eY W T5,hk3,bH,?_⟩
   clear hk3 bH hk2
   clear hW2 hW3 hW4 h1 h2 h3 hba hbb hb1
   obtain⟨Sr,dn⟩:=r
   dsimp only at h4 h5 hbr hW5 ⊢
   cases dn with
   | false =>
    repeat' first|apply jS|apply jO|apply jN|apply jT|refine Q1 ?_|refine Q0 ?_|refine QV (h:=?_)|apply jU|apply jE|refine Q8 rfl ?_|apply Qe
    exact Qa (g,Sr,T5) ⟨hW5,hbr,h4 rfl⟩ aY aF (by simpa [bf] using HSub.refl _)
   | true =>
    have h5:=h5 rfl
    clear h4
    repeat' first|apply jS|apply jO|apply jN|apply jT|refine Q1 ?_|refine Q0 ?_|refine QV (h:=?_)|apply jK|refine Q4 rfl ?_
    refine Z2 (A:=[(b2,.cells fH 74),(b1,.cells #[nv a.r,nv a.c,E] 26)]) (N:=bf eY W T5) (B:=[]) (R:=fun w v w'=>jf eY W a.r a.c T5 Sr w w'∧v=spV (Z0 Sr t a.r a.c)) (by simp only[bf,Vi,Vv,Vd,Vj]) aA rfl aH rfl (fun w _ hs=>?_) (fun w1 v1 w2 _ _ hk2 hR=>?_)
    ·have hs1:aI (bf eY W T5) w:=HSub.bU (by exact HSub.skip (HSub.skip (by first|exact HSub.refl _|exact QI|simpa [bf] using HSub.refl _))) hs
     exact QN (Qld (K+1) w eY W a.r a.c T5 Sr t hW5 hs1 gB htn hr hac hK hbr) fun v w' h=>⟨h.1.1,h⟩
    obtain⟨⟨_,T6,hk3,bH,hW6,_⟩,rfl⟩:=hR
    refine⟨bf eY W T6,hk3,bH,?_⟩
    clear hk3 bH hk2
    clear hW5
    rcases h5 with ⟨hn,rfl⟩|⟨k,S4,hk,hop,hst⟩
    ·rw[hn]
     clear hn
     have hld:=hW6.d.len
     have hT6:=hW6.d.T
     have hVr:∀ a,tv T6.d a=tv T6.d a:=fun _=>rfl
     have hx:(tM T6.d t t).natAbs<256 ^ (K+1):=Q1i hW6.d hbr.d t t
     simp only[bf,Vi,Vv,Vd,Vj]
     repeat' first|apply jS|apply jO|apply jN|apply jT|refine Q1 ?_|refine Q3 ?_|refine Q0 ?_|refine Qb ?_|refine QW (h:=?_)|refine Zo (h:=?_)|refine Y2 (h:=?_)|refine Yc (h:=?_)|refine QV (h:=?_)|refine Qz (h:=?_)|refine Qv (h:=?_)|refine Q8 rfl ?_
     refine Q5 aA rfl aH rfl (fun w _ _=>Y5 w _ (tM T6.d t t) (K+1) (Qi hx) oq) fun w v w' _ _ _ hR=>?_
     subst hR
     rw[show tM T6.d t t=gE Sr.d t t from hW6.d.at t t]
     by_cases hneg:gE Sr.d t t<0
     ·rw[if_pos hneg]at hrest
      have hsg:(gE Sr.d t t).sign<0:=Int.sign_neg_iff.2 hneg
      repeat' first|apply jO|apply jN|apply jT|refine Q1 ?_|(refine Qs (h1:=?_) (h2:=?_)<;>intro hc<;>try omega)|refine Q8 rfl ?_
      refine Z2 (A:=[(b2,.cells fH 74),(b1,.cells #[nv a.r,nv a.c,E] 26)]) (N:=bf eY W T6) (B:=[]) (R:=fun w v w'=>jf eY W a.r a.c T6 (Sr.neg t) w w') (by simp only[bf,Vi,Vv,Vd,Vj]) aA rfl aH rfl (fun w _ hs=>?_) (fun w1 v1 w2 _ _ hk2 hR=>?_)
      ·have hs1:aI (bf eY W T6) w:=HSub.bU (by exact HSub.skip (HSub.skip (by first|exact HSub.refl _|exact QI|simpa [bf] using HSub.refl _))) hs
       exact QN (Qmq (K+1) w eY W a.r a.c T6 Sr t hW6 hs1 gB hr hac hK hbr) fun v w' h=>⟨h.1,h⟩
      obtain⟨_,T7,hk3,bH,hW7,_⟩:=hR
      refine⟨bf eY W T7,hk3,bH,?_⟩
      clear hk3 bH hk2
      repeat' first|apply jO|apply jN|apply jT|refine Q1 ?_|refine Q0 ?_|refine Qj ?_|apply jU|apply jE|apply jW|apply Qe|refine XY rfl ?_
      exact Qa (t+1,Sr.neg t,T7) ⟨by dsimp only;omega,hW7,Q99 hbr,hrest⟩ aY aF (by simpa [bf] using HSub.refl _)
     ·rw[if_neg hneg]at hrest
      have hsg:¬(gE Sr.d t t).sign<0:=fun h=>hneg (Int.sign_neg_iff.1 h)
      repeat' first|apply jO|apply jN|apply jT|refine Q1 ?_|refine Q0 ?_|refine Qj ?_|(refine Qs (h1:=?_) (h2:=?_)<;>intro hc<;>try omega)|apply jU|apply jK|apply jE|refine Q4 rfl ?_|apply jW|apply Qe|refine XY rfl ?_
      exact Qa (t+1,Sr,T6) ⟨by dsimp only;omega,hW6,hbr,hrest⟩ aY aF (by simpa [bf] using HSub.refl _)
    ·rw[hk]
     have hlt:=Wa hk
     obtain⟨rfl,hb4⟩:=Q2w hop
     clear hk hop
     repeat' first|apply jS|apply jO|apply jN|apply jT|refine Q1 ?_|refine Q0 ?_|refine QV (h:=?_)|refine Qv (h:=?_)|apply jK|refine Q4 rfl ?_
     refine Q5 aA rfl aH rfl (fun w _ _=>XF w 1 dq dq) fun w v w' _ _ _ hR=>?_
     subst hR
     skip
     refine Z2 (A:=[(b2,.cells fH 74),(b1,.cells #[nv a.r,nv a.c,E] 26)]) (N:=bf eY W T6) (B:=[]) (R:=fun w v w'=>jf eY W a.r a.c T6 (Sr.rows t k (aT 1)) w w') (by simp only[bf,Vi,Vv,Vd,Vj]) aA rfl aH rfl (fun w _ hs=>?_) (fun w1 v1 w2 _ _ hk2 hR=>?_)
     ·have hs1:aI (bf eY W T6) w:=HSub.bU (by exact HSub.skip (HSub.skip (by first|exact HSub.refl _|exact QI|simpa [bf] using HSub.refl _))) hs
      exact QN (Q9v (K+1) w eY W a.r a.c T6 Sr t k 1 hW6 hs1 gB oq oq hr hac oq (Yz K) hbr) fun v w' h=>⟨h.1,h⟩
     obtain⟨_,T7,hk3,bH,hW7,_⟩:=hR
     refine⟨bf eY W T7,hk3,bH,?_⟩
     clear hk3 bH hk2
     repeat' first|apply jN|apply jW
     exact Qa (g,Sr.rows t k (aT 1),T7) ⟨hW7,hb4,hst⟩ aY aF (by simpa [bf] using HSub.refl _)
  ·have hfl:(ZL S1 t a.r a.c).2.2=false:=by simpa using hfl
   obtain rfl:=Q4a hst hfl
   rw[hfl]
   repeat' first|apply jS|apply jO|apply jN|apply jT|refine Q1 ?_|refine Q0 ?_|refine Qj ?_|refine QV (h:=?_)|refine Qv (h:=?_)|apply jU|apply jE|refine Q8 rfl ?_|apply jW|apply Qe|refine XY rfl ?_
   exact Qa (t+1,S2,T2) ⟨by dsimp only;omega,hW2,hb1,hrest⟩ aY aF (by simpa [bf] using HSub.refl _)
 ·have h0:Q1p (K+1) f a.r a.c 0 t S=some S':=by rw[show min a.r a.c-t=0 by omega]at hf;exact hf
  rw[Q1p]at h0
  obtain rfl:=Option.some.inj h0
  by_cases htr:t<a.r
  ·have htc:¬t<a.c:=by omega
   repeat' first|apply jS|apply jO|refine Q1 ?_|refine Q3 ?_|refine Qb ?_|refine QD (h:=?_)|(refine Qs (h1:=?_) (h2:=?_)<;>intro hc<;>try omega)|apply jN
   apply QE
   repeat' first|apply jU|apply jE|refine Q4 rfl ?_|apply Qe
   exact JX.part aF (by simpa [bf] using HSub.refl _) (rest T hW)
  ·repeat' first|apply jS|apply jO|refine Q1 ?_|refine Q3 ?_|refine Qb ?_|refine QC (h:=?_)|(refine Qs (h1:=?_) (h2:=?_)<;>intro hc<;>try omega)|refine QU (h:=?_)|apply jN
   apply QE
   repeat' first|apply jU|apply jE|refine Q4 rfl ?_|apply Qe
   exact JX.part aF (by simpa [bf] using HSub.refl _) (rest T hW)


section
variable {c:Cx} {Q:Exit→Act→World→Prop} {m:Mode} {F:ak} {H:aj} {r:List dA} {g:Option (Option Tmp × Bool)} {ns:Bool} {d:Tmp} {ty:TypeId} {x:Operand}
theorem Qcb {s:TypeId} {fs:Array Field} {fl:Field} {f n:Nat} {vs us:Array Value} (hu:c.P.underlying s=some (.struct fs)) (hf:fs[f]?=some fl) (ht:TN c.P fl.type n) (hd:Qx c.n (some d)=true) (hg:Qh F g=some true) (hx:ev F x=some (.agg vs)) (hn:fl.offset+n≤vs.size) (hv:vs.extract fl.offset (fl.offset+n)=us)
  (h:JO c Q m r ((d,.agg us)::F) H):JO c Q m (⟨some d,.field s x f,ty,g,.bC,ns⟩::r) F H :=
 Yb hd hg (fun a w fr=>by
  subst hv
  simp only[execOp,fr.ev hx,Instr.field,Sem.run_bind,run_underlying hu,Result.andThen_ok,hf,asAgg,Sem.run_pure,part,TN.agg,TN.size (n:=n),if_true,hn]) h
end
theorem YL {K fc f m n:Nat}:∀ {k t:Nat} {S S':Sm},ZF K fc f m n k t S=some S'→Ok K S→Ok K S'
 | 0,_,_,_,h,hb=>by rw[ZF]at h;cases h;exact hb
 | k + 1, t, S, S', h, hb => by
  obtain⟨S1,fl,h1,h2,h3⟩:=WQ h
  have hb1:=Q92 h1 hb
  cases fl with
  | false=>rw[← h2 rfl];exact hb1
  | true =>
   obtain⟨S2,h4,h5⟩:=h3 rfl
   have hb2:=Q4b h4 hb1
   refine YL h5 ?_
   split
   ·exact Q99 hb2
   ·exact hb2
theorem Q3m (b:Nat) (z:Int):aG [(b,.cells ⟨[.bool (wz z).1,sv (wz z).2]⟩ 35)] (.slice (some ⟨b,0,none⟩) 1 1) 1 [z]:=by
 have h:=aB.mk' (e:=35) (sz:=2) (n:=1) (b:=b) (cs:=⟨[.bool (wz z).1,sv (wz z).2]⟩) au (by simp only[maxLen];omega)
 exact h
def dH (g:List (List Int)) (k:Nat):List Int:=((List.range k).map fun i=>gE g i i).filter fun x=>decide (x≠0)
theorem Q55 {g:List (List Int)} {k:Nat} (h:gE g k k=0):dH g (k+1)=dH g k:=by
 unfold dH
 rw[List.range_succ,Vl,List.filter_append]
 simp[h]
theorem Q56 {g:List (List Int)} {k:Nat} (h:gE g k k≠0):dH g (k+1)=dH g k++[gE g k k]:=by
 unfold dH
 rw[List.range_succ,Vl,List.filter_append]
 simp[h]
theorem Q7v (g:List (List Int)) (k:Nat):(dH g k).length≤k:=by
 unfold dH
 refine V0 (List.length_filter_le _ _) ?_
 simp
theorem Q53 {c:Nat}:∀ {g:List (List Int)},(∀ x∈g,x.length=c)→∀ i j,i<g.length→j<c→g.flatten.getD (i*c+j) 0=gE g i j
 | [],_,i,j,hi,_=>by cases hi
 | x::g,h,0,j,_,hj=>by
  have hx:=h x au
  rw[List.flatten_cons,Nat.zero_mul,Vu]
  unfold gE
  rw[List.getD,List.getElem?_append_left oq];rfl
 | x::g,h,i+1,j,hi,hj=>by
  have hx:=h x au
  have ih:=Q53 (g:=g) (fun y hy=>h y (by simp[hy])) i j (by simpa using hi) hj
  rw[List.flatten_cons,Nat.succ_mul]
  unfold gE at ih ⊢
  rw[List.getD,List.getElem?_append_right oq,show i*c+c+j-x.length=i*c+j by omega]
  exact ih
theorem Qp3 {r c i j:Nat} {g:List (List Int)} (h:Rec r c g) (hi:i<r) (hj:j<c):atZ (gM r c g) i j=gE g i j:=by
 unfold atZ
 rw[if_pos ⟨by omega,by show (i:Int)<(r:Int);omega,by omega,by show (j:Int)<(c:Int);omega⟩]
 exact Q53 h.row i j (by rw[h.len];exact hi) hj
theorem Qj0 (K fc f:Nat) (w:World) (v:Value) (a:ZM) (S':Sm) (ha:cO a) (hv:fO w v a) (hK:K+1≤13400000000000) (hb:cZ (K+1) a)
  (hf:ZF (K+1) fc f a.r a.c (min a.r a.c) 0 (QY a.r a.c (QZ a))=some S') :
  Calls Tryz.prog 98 #[v] w (aP fun v w'=>Kp [] w w'∧∃ N,New N w w'∧aG N v (dH S'.d (min a.r a.c)).length (dH S'.d (min a.r a.c))):=by
 have hv0:=hv
 have hr:=ha.r
 have hac:=ha.c
 have hbS:=YL hf (Yi ha hb)
 obtain⟨E,rfl,hE⟩:=hv
 refine Q9 [] [] au [] Tryz.func98 rfl mixed (by kernel_rfl) Tryz.ntmps98 Tryz.results98 rfl ⟨by simp,by simp⟩ au ?_
 simp only[toS,Qd,Qt,Qk,Ql,ay,Qg,QA,aC]
 repeat' first|apply jS|apply jO|apply jN|refine Q0 ?_|refine Q7 ?_|refine QB fun _=>?_|apply jT
 rename_i b1
 refine Qf (A:=[_]) (B:=[]) rfl aA rfl aH rfl (fun w hk hs=>Qds K fc f w _ a S' ha (hv0.mono hk) hK hb hf) fun w v w' _ _ _ hR=>?_
 obtain⟨N1,N2,N3,N4,N5,E1,E2,E3,E4,E5,rfl,hD,hN,bT,hO2,hO3,hO4,iL⟩:=hR
 obtain⟨A3,c3,rfl⟩:=hO3.form
 refine⟨_,hN,?_⟩
 refine Qcb Tryz.underlying74 rfl (show TN Tryz.prog 26 3 from inferInstance) rfl rfl rfl (us:=#[nv a.r,nv a.c,.slice A3 (a.r*a.c) c3]) (by show (6+3≤(15:Nat));decide) rfl ?_
 have hO3z:aG N3 (.slice A3 (a.r*a.c) c3) (gM a.r a.c S'.d).e.length (gM a.r a.c S'.d).e:=by rw[show (gM a.r a.c S'.d).e.length=a.r*a.c from XA hD.d];exact hO3
 have hgR:cO (gM a.r a.c S'.d):=Wt hD.d hr hac
 clear bT hO2 hO3 hO4 iL hN hf hb hE
 repeat' first|apply jS|apply jO|apply jN|apply jT|refine Q1 ?_|refine Q3 ?_|refine Q0 ?_|refine Qb ?_|refine Qea (h:=?_)|refine Q2 ?_|refine Qc fun _=>?_|refine Q2 ?_|apply jB
 rename_i b3
 have hmin:(if (a.c:Int)<(a.r:Int) then (a.c:Int) else (a.r:Int))=((min a.r a.c:Nat):Int):=by split<;>omega
 rw[hmin]
 refine Qp (ι:=Nat × aj × Value) ⟨fun z=>[(15,nv z.1),(14,nv (min a.r a.c)),(4,z.2.2),(3,.pointer (some ⟨b3,0,none⟩))],fun z=>[(b3,.cells #[nv a.r,nv a.c,.slice A3 (a.r*a.c) c3] 26)]++(N3++(z.2.1++[])),
  fun z=>z.1≤min a.r a.c∧aG z.2.1 z.2.2 (dH S'.d z.1).length (dH S'.d z.1),fun z=>min a.r a.c-z.1⟩ (0,[],.slice none 0 0) ⟨V9 _,aG.nil⟩ aF ?_ (fun z hz=>?_)
 ·exact HSub.at 0 rfl (HSub.skip (by show HSub (N3++[]) (N1++(N2++(N3++(N4++N5)))++[]);simp only[Vj];exact Qr (Qr QI)))
 obtain⟨k,N,v4⟩:=z
 obtain⟨hk,hO⟩:=hz
 dsimp only at hk hO ⊢
 by_cases hlt:k<min a.r a.c
 ·have hk1:k<a.r:=by omega
  have hk2:k<a.c:=by omega
  have hx:(gE S'.d k k).natAbs<256 ^ (K+1):=Zp hbS.d k k
  repeat' first|apply jS|apply jO|apply jN|apply jT|refine Q1 ?_|refine Q0 ?_|refine Q7 ?_|(refine Qs (h1:=?_) (h2:=?_)<;>intro hc<;>try omega)|apply jK|refine Q8 rfl ?_|apply jB
  refine Q5 aA rfl aH rfl (fun w hk hs=>c_At w _ (gM a.r a.c S'.d) (k:Int) (k:Int) hgR ⟨_,rfl,hO3z.rd.at hk hs Q6⟩) fun w v w' _ _ _ hR=>?_
  rw[Qp3 hD.d hk1 hk2]at hR
  subst hR
  repeat' first|apply jS|apply jO|apply jN|refine Q7 ?_|refine Q2 ?_|refine Qc fun _=>?_|refine Q2 ?_|apply jT
  refine Q5 aA rfl aH rfl (fun w _ _=>XU w _ (gE S'.d k k) (K+1) (Qi hx) oq) fun w v w' _ _ _ hR=>?_
  subst hR
  by_cases hz:gE S'.d k k=0
  ·rw[← Q55 hz]at hO
   rw[show (gE S'.d k k).sign=0 by rw[hz];rfl]
   repeat' first|apply jO|apply jN|apply jT|refine Q1 ?_|refine Qj ?_|(refine Ze (h1:=?_) (h2:=?_)<;>intro hc<;>try omega)|apply jK|refine Q4 rfl ?_|apply jW
   exact Qa (k+1,N,v4) ⟨by dsimp only;omega,hO⟩ aY aF QK
  ·have hsz:¬(gE S'.d k k).sign=0:=fun h=>hz (Int.sign_eq_zero_iff_zero.1 h)
   have hfs:=Q56 hz
   have hfl:=Q7v S'.d k
   repeat' first|apply jO|apply jN|apply jT|refine Q1 ?_|refine Q7 ?_|(refine Ze (h1:=?_) (h2:=?_)<;>intro hc<;>try omega)|refine Q8 rfl ?_
   refine X4 (sz:=2) (vs:=[Wv (gE S'.d k k)]) (cl:=[.bool (wz (gE S'.d k k)).1,sv (wz (gE S'.d k k)).2]) rfl rfl (by first|rfl|trivial|exact⟨rfl,rfl⟩) rfl rfl (fun v hv=>by
    cases List.mem_singleton.1 hv;rfl) rfl dq dq (fun b=>?_)
   have h1:=Q3m b (gE S'.d k k)
   skip
   refine Y3 (A:=_::_::_::N3) (B:=[]) hO h1.rd Q6 rfl aA rfl rfl rfl rfl oq (fun v' N' aU=>?_)
   rw[← hfs,show (dH S'.d k).length+1=(dH S'.d (k+1)).length by rw[hfs];simp]at aU
   repeat' first|apply jO|apply jN|apply jT|refine Q1 ?_|refine Q0 ?_|refine Qj ?_|apply jW
   exact Qa (k+1,N',v') ⟨by dsimp only;omega,aU⟩ aY aF (by exact HSub.skip (HSub.skip (by simp only[Vi,Vv,Vd];exact HSub.refl _)))
 ·obtain rfl:k=min a.r a.c:=by omega
  repeat' first|apply jS|apply jO|apply jN|apply jT|refine Q1 ?_|refine Q0 ?_|(refine Qs (h1:=?_) (h2:=?_)<;>intro hc<;>try omega)|apply jU|apply jE|apply jR|refine Q4 rfl ?_|apply Qe
  exact Qn rfl (fun a w' st=>⟨st.kp,N,st.aS rfl Q6,hO⟩)

theorem Qmz (K fc f:Nat) (w:World) (v:Value) (a:ZM) (S':Sm) (ha:cO a) (hv:fO w v a) (hK:K+1≤13400000000000) (hb:cZ (K+1) a)
  (hf:ZF (K+1) fc f a.r a.c (min a.r a.c) 0 (QY a.r a.c (QZ a))=some S') :
  Calls Tryz.prog 49 #[v] w (aP fun v w'=>Kp [] w w'∧v=nv (dH S'.d (min a.r a.c)).length):=by
 have hv0:=hv
 have hr:=ha.r
 have hfl:=Q7v S'.d (min a.r a.c)
 obtain⟨E,rfl,hE⟩:=hv
 refine Q9 [] [] au [] Tryz.func49 rfl mixed (by kernel_rfl) Tryz.ntmps49 Tryz.results49 rfl ⟨by simp,by simp⟩ au ?_
 simp only[toS,Qd,Qt,Qk,Ql,ay,Qg,QA,aC]
 repeat' first|apply jS|apply jO|apply jN|refine Q0 ?_|refine Q7 ?_|refine QB fun _=>?_|apply jT
 refine Qf (A:=[_]) (B:=[]) rfl aA rfl aH rfl (fun w hk hs=>Qj0 K fc f w _ a S' ha (hv0.mono hk) hK hb hf) fun w v w' _ _ _ hR=>?_
 obtain⟨N,hN,hO⟩:=hR
 obtain⟨A,cc,rfl⟩:=hO.form
 refine⟨_,hN,?_⟩
 repeat' first|apply jN|apply jT|refine Q0 ?_|refine Zv (h:=?_)|apply jR
 exact Qn rfl (fun a w' st=>⟨st.kp,rfl⟩)



section
variable {c:Cx} {Q:Exit→Act→World→Prop} {m:Mode} {F:ak} {H:aj} {r:List dA} {g:Option (Option Tmp × Bool)} {ns:Bool} {d:Tmp} {ty t:TypeId} {x:Operand}
theorem Wz {b o:Nat} (k:Nat) {cs:Array Value} {x1 x2 x3:Value} {T:TypeId} {fz:Nat × Nat} [TN c.P t 3] (hd:Qx c.n (some d)=true) (hg:Qh F g=some true) (hx:ev F x=some (.pointer (some ⟨b,o,none⟩))) (hl:m.live=true)
  (hb:(m.src H)[k]?=some (b,.cells cs T fz)) (h1:cs[o]?=some x1) (h2:cs[o+1]?=some x2) (h3:cs[o+2]?=some x3) (h:JO c Q m r ((d,(.agg #[x1,x2,x3]))::F) H):JO c Q m (⟨some d,.load t x,ty,g,.ld,ns⟩::r) F H :=
 Qgj k hd hg hx hl hb (vs:=#[x1,x2,x3]) rfl (fun j hj=>by
  match j,hj with
  | 0,_=>exact h1
  | 1,_=>exact h2
  | 2,_=>exact h3) h
end


theorem Q49 {K t m n:Nat}:∀ {f:Nat} {S S':Sm},XI K t m n f S=some S'→Ok K S→Ok K S'
 | 0,_,_,h,_=>by cases h
 | f + 1, S, S', h, hb => by
  by_cases hl:(ZL S t m n).2.2=true
  ·obtain⟨S1,S2,r,h1,h2,h3,h4,h5⟩:=Q48 h hl
   have hbr:=Q6m h3 (Qm3 h2 (Qm2 h1 hb))
   cases hr:r.2 with
   | false=>exact Q49 (h4 hr) hbr
   | true =>
    rcases h5 hr with ⟨_,rfl⟩|⟨k,S4,_,h6,h7⟩
    ·split
     ·exact Q99 hbr
     ·exact hbr
    ·exact Q49 h7 (Q2w h6).2
  ·rw[Q4a h (by simpa using hl)];exact hb
theorem Qda {K f m n:Nat}:∀ {k t:Nat} {S S':Sm},Q1p K f m n k t S=some S'→Ok K S→Ok K S'
 | 0,_,_,_,h,hb=>by rw[Q1p]at h;cases h;exact hb
 | k+1,t,S,S',h,hb=>by
  obtain⟨S1,h1,h2⟩:=Q6g h
  exact Qda h2 (Q49 h1 hb)

theorem Q6q (K f:Nat) (w:World) (v:Value) (a:ZM) (S':Sm) (ha:cO a) (hv:fO w v a) (hK:K+1≤220000000000) (hb:cZ (K+1) a)
  (hf:Q1p (K+1) f a.r a.c (min a.r a.c) 0 (QY a.r a.c (QZ a))=some S') :
  Calls Tryz.prog 17 #[v] w (aP fun v w'=>Kp [] w w'∧∃ N,New N w w'∧aG N v (dH S'.d (min a.r a.c)).length (dH S'.d (min a.r a.c))):=by
 have hv0:=hv
 have hr:=ha.r
 have hac:=ha.c
 have hbS:=Qda hf (Yi ha hb)
 obtain⟨E,rfl,hE⟩:=hv
 refine Q9 [] [] au [] Tryz.func17 rfl mixed (by kernel_rfl) Tryz.ntmps17 Tryz.results17 rfl ⟨by simp,by simp⟩ au ?_
 simp only[toS,Qd,Qt,Qk,Ql,ay,Qg,QA,aC]
 repeat' first|apply jS|apply jO|apply jN|refine Q0 ?_|refine Q7 ?_|refine QB fun _=>?_|apply jT
 rename_i b1
 refine Qf (A:=[_]) (B:=[]) rfl aA rfl aH rfl (fun w hk hs=>Qpq K f w _ a S' ha (hv0.mono hk) hK hb hf) fun w v w' _ _ _ hR=>?_
 obtain⟨N1,N2,N3,N4,N5,E1,E2,E3,E4,E5,rfl,hD,hN,bT,hO2,hO3,hO4,iL⟩:=hR
 obtain⟨A1,c1,rfl⟩:=bT.form
 obtain⟨A2,c2,rfl⟩:=hO2.form
 obtain⟨A3,c3,rfl⟩:=hO3.form
 obtain⟨A4,c4,rfl⟩:=hO4.form
 obtain⟨A5,c5,rfl⟩:=iL.form
 refine⟨_,hN,?_⟩
 have hO3z:aG N3 (.slice A3 (a.r*a.c) c3) (gM a.r a.c S'.d).e.length (gM a.r a.c S'.d).e:=by rw[show (gM a.r a.c S'.d).e.length=a.r*a.c from XA hD.d];exact hO3
 have hgR:cO (gM a.r a.c S'.d):=Wt hD.d hr hac
 clear bT hO2 hO3 hO4 iL hN hf hb hE
 unfold smC
 repeat' first|apply jS|apply jO|apply jN|apply jT|refine Q0 ?_|refine Q2 ?_|refine Qc fun _=>?_|refine Q2 ?_|apply jB
 rename_i b3
 refine Qp (ι:=Nat × aj × Value) ⟨fun z=>[(5,nv z.1),(4,z.2.2),(3,.pointer (some ⟨b3,0,none⟩))],fun z=>[(b3,.cells (smC a.r a.c (.slice A1 (a.r*a.r) c1) (.slice A2 (a.r*a.r) c2) (.slice A3 (a.r*a.c) c3) (.slice A4 (a.c*a.c) c4) (.slice A5 (a.c*a.c) c5)) 74)]++(N3++(z.2.1++[])),
  fun z=>z.1≤min a.r a.c∧aG z.2.1 z.2.2 (dH S'.d z.1).length (dH S'.d z.1),fun z=>min a.r a.c-z.1⟩ (0,[],.slice none 0 0) ⟨V9 _,aG.nil⟩ aF ?_ (fun z hz=>?_)
 ·exact HSub.at 0 rfl (HSub.skip (by show HSub (N3++[]) (N1++(N2++(N3++(N4++N5)))++[]);simp only[Vj];exact Qr (Qr QI)))
 obtain⟨k,N,v4⟩:=z
 obtain⟨hk,hO⟩:=hz
 dsimp only at hk hO ⊢
 by_cases hlt:k<min a.r a.c
 ·have hk1:k<a.r:=by omega
  have hk2:k<a.c:=by omega
  have hx:(gE S'.d k k).natAbs<256 ^ (K+1):=Zp hbS.d k k
  repeat' first|apply jS|apply jO|apply jN|apply jT|refine Q1 ?_|refine Q3 ?_|refine Qb ?_|refine QD (h:=?_)|(refine Qs (h1:=?_) (h2:=?_)<;>intro hc<;>try omega)|apply jK|refine Q8 rfl ?_|apply jB
  refine Wz 0 rfl aH rfl rfl rfl rfl rfl rfl ?_
  repeat' first|refine Q1 ?_|fail
  refine Q5 aA rfl aH rfl (fun w hk hs=>Qpp w _ (gM a.r a.c S'.d) (k:Int) (k:Int) hgR ⟨_,rfl,hO3z.rd.at hk hs Q6⟩) fun w v w' _ _ _ hR=>?_
  rw[Qp3 hD.d hk1 hk2]at hR
  subst hR
  repeat' first|refine Q2 ?_|refine Qc fun _=>?_|refine Q2 ?_|apply jN
  rename_i b6
  apply QE
  repeat' first|apply jS|refine Q7 ?_|apply jO
  refine Q5 aA rfl aH rfl (fun w _ _=>Y5 w _ (gE S'.d k k) (K+1) (Qi hx) oq) fun w v w' _ _ _ hR=>?_
  subst hR
  by_cases hz:gE S'.d k k=0
  ·rw[← Q55 hz]at hO
   rw[show (gE S'.d k k).sign=0 by rw[hz];rfl]
   repeat' first|apply jO|apply jN|apply jT|refine Q1 ?_|refine Q0 ?_|refine Qj ?_|(refine Ze (h1:=?_) (h2:=?_)<;>intro hc<;>try omega)|apply jK|refine Q4 rfl ?_|apply jW
   exact Qa (k+1,N,v4) ⟨by dsimp only;omega,hO⟩ aY aF (HSub.skip (HSub.refl _))
  ·have hsz:¬(gE S'.d k k).sign=0:=fun h=>hz (Int.sign_eq_zero_iff_zero.1 h)
   have hfs:=Q56 hz
   have hfl:=Q7v S'.d k
   repeat' first|apply jO|apply jN|apply jT|refine Q1 ?_|refine Q7 ?_|(refine Ze (h1:=?_) (h2:=?_)<;>intro hc<;>try omega)|refine Q8 rfl ?_
   refine X4 (sz:=2) (vs:=[Wv (gE S'.d k k)]) (cl:=[.bool (wz (gE S'.d k k)).1,sv (wz (gE S'.d k k)).2]) rfl rfl (by first|rfl|trivial|exact⟨rfl,rfl⟩) rfl rfl (fun v hv=>by
    cases List.mem_singleton.1 hv;rfl) rfl dq dq (fun b=>?_)
   have h1:=Q3m b (gE S'.d k k)
   skip
   refine Y3 (A:=_::_::_::N3) (B:=[]) hO h1.rd Q6 rfl aA rfl rfl rfl rfl oq (fun v' N' aU=>?_)
   rw[← hfs,show (dH S'.d k).length+1=(dH S'.d (k+1)).length by rw[hfs];simp]at aU
   repeat' first|apply jO|apply jN|apply jT|refine Q1 ?_|refine Q0 ?_|refine Qj ?_|apply jW
   exact Qa (k+1,N',v') ⟨by dsimp only;omega,aU⟩ aY aF (by exact HSub.skip (HSub.skip (by simp only[Vi,Vv,Vd];exact HSub.refl _)))
 ·obtain rfl:k=min a.r a.c:=by omega
  by_cases htr:min a.r a.c<a.r
  ·have htc:¬min a.r a.c<a.c:=by omega
   repeat' first|apply jS|apply jO|apply jN|apply jT|refine Q1 ?_|refine Q3 ?_|refine Q0 ?_|refine Qb ?_|refine QD (h:=?_)|(refine Qs (h1:=?_) (h2:=?_)<;>intro hc<;>try omega)|apply jU|apply jE|apply jR|refine Q4 rfl ?_|apply Qe
   exact Qn rfl (fun a w' st=>⟨st.kp,N,st.aS rfl Q6,hO⟩)
  ·repeat' first|apply jS|apply jO|apply jN|apply jT|refine Q1 ?_|refine Q3 ?_|refine Q0 ?_|refine Qb ?_|refine QC (h:=?_)|(refine Qs (h1:=?_) (h2:=?_)<;>intro hc<;>try omega)|apply jU|apply jE|refine Q4 rfl ?_|apply Qe|refine QU (h:=?_)|apply jR
   exact Qn rfl (fun a w' st=>⟨st.kp,N,st.aS rfl Q6,hO⟩)


theorem Q3l (b:Nat) (z:Int):aG [(b,.cells ⟨[.bool (wz z).1,sv (wz z).2]⟩ 35)] (.slice (some ⟨b,0,none⟩) 1 1) 1 [z]:=by
 have h:=aB.mk' (e:=35) (sz:=2) (n:=1) (b:=b) (cs:=⟨[.bool (wz z).1,sv (wz z).2]⟩) au (by simp only[maxLen];omega)
 exact h

open Classical in
def GivesLB (zs:List Int) (b:Bool) (w:World) (v:Value) (w':World):Prop:=∃ N E,New N w w'∧v=.tuple #[E,.bool b]∧aG N E zs.length zs
theorem GivesLB.nil {w w':World} {v:Value} (h:v=.tuple #[.slice none 0 0,.bool false]):GivesLB [] false w v w':=⟨[],_,New.nil _ _,h,aG.nil⟩
theorem fK.of {L:Nat} {zs:List Int} (h:∀ i,(zs.getD i 0).natAbs<256 ^ L):fK L zs:=h

theorem Qem (K L:Nat) (w:World) (v u:Value) (m:ZM) (zs:List Int) (hm:cO m) (hl:zs.length≤200) (hr:m.c=zs.length) (hK:K+L≤400000000000) (hx:cZ K m) (hy:fK L zs) (hv:fO w v m) (hu:WZ w u zs.length zs) :
  Calls Tryz.prog 34 #[v,u] w (aP fun v w'=>Kp [] w w'∧GivesLB (jH m (iV zs)).e true w v w'):=by
 have hv0:=hv
 obtain⟨E,rfl,hE⟩:=hv
 refine Q9 [] [] au [] Tryz.func34 rfl mixed (by kernel_rfl) Tryz.ntmps34 Tryz.results34 rfl ⟨by simp,by simp⟩ au ?_
 simp only[toS,Qd,Qt,Qk,Ql,ay,Qg,QA,aC]
 have hR:=WZ.rd (c:=⟨Tryz.prog,30,w,[],by simp⟩) hu rfl []
 obtain⟨A,cap,rfl⟩:=hu.form
 repeat' first|apply jS|apply jO|apply jN|refine Q1 ?_|refine Q0 ?_|refine QB fun _=>?_|apply jT
 rename_i b2
 refine Q5 trivial rfl rfl rfl (fun w hk _=>Q0g w _ zs.length (zs.map wz) (hu.mono hk) oq) fun w v w' _ _ _ hc0=>?_
 obtain⟨b',rfl,hb⟩:=hc0
 obtain rfl:=hb.2 ⟨zs,rfl⟩
 repeat' first|apply jS|apply jO|apply jN|apply jT|refine Q1 ?_|refine Q0 ?_|refine Q7 ?_|refine Zv (h:=?_)|refine QC (h:=?_)|refine QV (h:=?_)|(refine Zg (h1:=?_) (h2:=?_)<;>intro hc<;>try omega)|refine Zh (h:=?_)|apply jK|refine Q4 rfl ?_
 all_goals first
  | (exfalso;omega)
  | skip
 refine Qf (A:=[_]) (B:=[]) rfl aA rfl rfl rfl (fun w hk _=>Qle K L w _ _ m (iV zs) hm (Qb3 oq) hr hK hx hy (hv0.mono hk) ⟨_,rfl,hu.mono hk⟩) fun w v w' _ _ _ hR=>?_
 obtain⟨N,u,rfl,hN,hO⟩:=hR
 obtain⟨Eo,rfl,hO⟩:=hO
 obtain⟨A2,c2,rfl⟩:=hO.form
 refine⟨N,hN,?_⟩
 repeat' first|apply jS|apply jO|apply jN|apply jT|refine Q1 ?_|refine Q3 ?_|refine Q0 ?_|refine Qb ?_|refine Qv (h:=?_)|refine Q2 ?_|refine Qc fun _=>?_|refine Q2 ?_|apply jR
 exact YH rfl rfl (fun a w' st=>⟨st.kp,N,_,st.aS rfl (by simp only[Vj];exact HSub.skip (HSub.skip (HSub.refl _))),rfl,hO⟩)

section
variable {c:Cx} {Q:Exit→Act→World→Prop} {m:Mode} {F:ak} {H:aj} {r:List dA} {g:Option (Option Tmp × Bool)} {ns:Bool} {d:Tmp} {ty t t':TypeId} {x y:Operand} {N:aj} {n:Nat} {v:Value}
end


theorem Qfw {a:Int} (h:a.sign=0):true=decide (a=0):=(decide_eq_true (Int.sign_eq_zero_iff_zero.1 h)).symm
theorem Qfx {a:Int} (h:a.sign≠0):false=decide (a=0):=(decide_eq_false (fun e=>h (by rw[e];rfl))).symm

theorem Q2l (w:World) (v:Value) (a:Int) (k:Nat) (hv:dR v a k) (hk:k≤29000000000000) :
  Calls Tryz.prog 60 #[v] w (aP fun r w'=>Kp [] w w'∧r=.bool (decide (a=0))):=by
 have hv0:=hv
 obtain⟨p,l,rfl,hl,ha⟩:=hv
 refine Q9 [] [] au [] Tryz.func60 rfl mixed (by kernel_rfl) Tryz.ntmps60 Tryz.results60 rfl ⟨by simp,by simp⟩ au ?_
 simp only[toS,Qd,Qt,Qk,Ql,ay,Qg,QA,aC]
 repeat' first|apply jS|apply jO|apply jN|refine Q0 ?_|refine Q7 ?_|refine QB fun _=>?_|apply jT
 refine Q5 aA rfl aH rfl (fun w _ _=>XU w _ a k hv0 oq) fun w v w' _ _ _ hR=>?_
 subst hR
 repeat' first|apply jN|apply jT|refine Q0 ?_|(refine Z9 (h1:=?_) (h2:=?_)<;>intro hc<;>try omega)|apply jR
 ·exact Qn rfl (fun a' w' st=>⟨st.kp,congrArg Value.bool (Qfw hc)⟩)
 ·exact Qn rfl (fun a' w' st=>⟨st.kp,congrArg Value.bool (Qfx hc)⟩)

theorem Qsi (w:World) (v u:Value) (m a:Int) (k:Nat) (hv:dR v m k) (hu:dR u a k) (hk:k≤29000000000000) :
  Calls Tryz.prog 85 #[v,u] w (aP fun r w'=>Kp [] w w'∧r=.bool (decide (m∣a))):=by
 have hv0:=hv
 have hu0:=hu
 obtain⟨p,l,rfl,hl,hm⟩:=hv
 obtain⟨q,l',rfl,hl',ha⟩:=hu
 refine Q9 [] [] au [] Tryz.func85 rfl mixed (by kernel_rfl) Tryz.ntmps85 Tryz.results85 rfl ⟨by simp,by simp⟩ au ?_
 simp only[toS,Qd,Qt,Qk,Ql,ay,Qg,QA,aC]
 repeat' first|apply jS|apply jO|apply jN|refine Q0 ?_|refine Q7 ?_|refine QB fun _=>?_|apply jT
 refine Q5 aA rfl aH rfl (fun w _ _=>Q2l w _ m k hv0 oq) fun w v w' _ _ _ hR=>?_
 subst hR
 by_cases hz:m=0
 ·rw[decide_eq_true hz]
  repeat' first|apply jS|apply jO|apply jN|apply jT|refine Q7 ?_|refine Q8 rfl ?_
  refine Q5 aA rfl aH rfl (fun w _ _=>Q2l w _ a k hu0 oq) fun w v w' _ _ _ hR=>?_
  subst hR
  repeat' first|apply jN|apply jT|refine Q0 ?_|apply jV|apply jR
  exact Qn rfl (fun a' w' st=>⟨st.kp,congrArg Value.bool (by rw[decide_eq_decide,hz,Int.zero_dvd])⟩)
 ·rw[decide_eq_false hz]
  repeat' first|apply jS|apply jO|apply jN|apply jT|refine Q7 ?_|apply jK|refine Q4 rfl ?_
  refine Q5 aA rfl aH rfl (fun w _ _=>Q3b w _ _ a m k hu0 hv0 oq) fun w v w' _ _ _ hR=>?_
  rw[if_neg hz]at hR
  subst hR
  have hr:(a % m).natAbs<256 ^ k:=by
   have h1:=hv0.lt
   have h2:=Int.emod_lt a hz
   have h3:=Int.emod_nonneg a hz
   omega
  repeat' first|apply jS|apply jO|apply jN|refine Q1 ?_|refine Q0 ?_|refine Q7 ?_|refine Qv (h:=?_)|refine Q2 ?_|refine Qc fun _=>?_|refine Q2 ?_|apply jT
  refine Q5 aA rfl aH rfl (fun w _ _=>Q2l w _ (a % m) k (Qi hr) oq) fun w v w' _ _ _ hR=>?_
  subst hR
  repeat' first|apply jN|apply jT|refine Q0 ?_|apply jR
  exact Qn rfl (fun a' w' st=>⟨st.kp,congrArg Value.bool (by rw[decide_eq_decide];exact⟨Int.dvd_of_emod_eq_zero,Int.emod_eq_zero_of_dvd⟩)⟩)

theorem Qmr (w:World) (v u:Value) (m a:Int) (k:Nat) (hv:dR v m k) (hu:dR u a k) (hk:k≤900000000000) :
  Calls Tryz.prog 70 #[v,u] w (aP fun r w'=>Kp [] w w'∧r=.bool (decide (m∣a))):=by
 have hv0:=hv
 have hu0:=hu
 obtain⟨p,l,rfl,hl,hm⟩:=hv
 obtain⟨q,l',rfl,hl',ha⟩:=hu
 refine Q9 [] [] au [] Tryz.func70 rfl mixed (by kernel_rfl) Tryz.ntmps70 Tryz.results70 rfl ⟨by simp,by simp⟩ au ?_
 simp only[toS,Qd,Qt,Qk,Ql,ay,Qg,QA,aC]
 repeat' first|apply jS|apply jO|apply jN|refine Q0 ?_|refine Q7 ?_|refine QB fun _=>?_|apply jT
 refine Q5 aA rfl aH rfl (fun w _ _=>Y5 w _ m k hv0 oq) fun w v w' _ _ _ hR=>?_
 subst hR
 by_cases hz:m=0
 ·rw[show m.sign=0 from Int.sign_eq_zero_iff_zero.2 hz]
  repeat' first|apply jS|apply jO|apply jN|apply jT|refine Q7 ?_|(refine Z9 (h1:=?_) (h2:=?_)<;>intro hc<;>try omega)|refine Q8 rfl ?_
  refine Q5 aA rfl aH rfl (fun w _ _=>Y5 w _ a k hu0 oq) fun w v w' _ _ _ hR=>?_
  subst hR
  repeat' first|apply jN|apply jT|refine Q0 ?_|(refine Z9 (h1:=?_) (h2:=?_)<;>intro hc<;>try omega)|apply jV|apply jR
  ·exact Qn rfl (fun a' w' st=>⟨st.kp,congrArg Value.bool (by rw[Qfw hc,decide_eq_decide,hz,Int.zero_dvd])⟩)
  ·exact Qn rfl (fun a' w' st=>⟨st.kp,congrArg Value.bool (by rw[Qfx hc,decide_eq_decide,hz,Int.zero_dvd])⟩)
 ·have hz':m.sign≠0:=fun h=>hz (Int.sign_eq_zero_iff_zero.1 h)
  repeat' first|apply jS|apply jO|apply jN|apply jT|refine Q7 ?_|(refine Z9 (h1:=?_) (h2:=?_)<;>intro hc<;>try omega)|apply jK|refine Q4 rfl ?_
  all_goals first
   | contradiction
   | skip
  refine Q5 aA rfl aH rfl (fun w _ _=>Qdp w _ _ a m k hu0 hv0 oq) fun w v w' _ _ _ hR=>?_
  rw[if_neg hz]at hR
  subst hR
  have hr:(a % m).natAbs<256 ^ k:=by
   have h1:=hv0.lt
   have h2:=Int.emod_lt a hz
   have h3:=Int.emod_nonneg a hz
   omega
  repeat' first|apply jS|apply jO|apply jN|refine Q1 ?_|refine Q0 ?_|refine Q7 ?_|refine Qv (h:=?_)|refine Q2 ?_|refine Qc fun _=>?_|refine Q2 ?_|apply jT
  refine Q5 aA rfl aH rfl (fun w _ _=>Y5 w _ (a % m) k (Qi hr) oq) fun w v w' _ _ _ hR=>?_
  subst hR
  repeat' first|apply jN|apply jT|refine Q0 ?_|(refine Z9 (h1:=?_) (h2:=?_)<;>intro hc<;>try omega)|apply jR
  ·exact Qn rfl (fun a' w' st=>⟨st.kp,congrArg Value.bool (by rw[Qfw hc,decide_eq_decide];exact⟨Int.dvd_of_emod_eq_zero,Int.emod_eq_zero_of_dvd⟩)⟩)
  ·exact Qn rfl (fun a' w' st=>⟨st.kp,congrArg Value.bool (by rw[Qfx hc,decide_eq_decide];exact⟨Int.dvd_of_emod_eq_zero,Int.emod_eq_zero_of_dvd⟩)⟩)

theorem is0 (K:Nat):dR (wv false []) 0 K:=by rw[← Wz0];exact Qi (bG K)
theorem Q64 {xs:List Int} {n k:Nat}:(tab n fun i=>if i<k then xs.getD i 0 else 0).set k (xs.getD k 0+0)=tab n fun i=>if i<k+1 then xs.getD i 0 else 0:=by
 rw[Int.add_zero]
 exact Q6u (f:=fun i=>xs.getD i 0)
theorem Q91 {xs:List Int} {n:Nat} (h:xs.length=n):(tab n fun i=>if i<n then xs.getD i 0 else 0)=xs:=by
 rw[Y0 (g':=fun i=>xs.getD i 0) (fun i hi=>if_pos hi)]
 exact Qlz h

theorem Qis (K:Nat) (w:World) (v:Value) (n:Nat) (xs:List Int) (hv:WZ w v n xs) (hn:n≤2000000) (hK:K≤29000000000000) (hx:fK K xs) :
  Calls Tryz.prog 76 #[v] w (aP fun v w'=>Kp [] w w'∧∃ N,New N w w'∧aG N v n xs):=by
 have hlen:xs.length=n:=by simpa using hv.len
 obtain⟨A0,c0,rfl⟩:=hv.form
 have hv0:=hv
 refine Q9 [] [] au [] Tryz.func76 rfl mixed (by kernel_rfl) Tryz.ntmps76 Tryz.results76 rfl ⟨by simp,by simp⟩ au ?_
 simp only[toS,Qd,Qt,Qk,Ql,ay,Qg,QA,aC]
 have hR:=WZ.rd (c:=⟨Tryz.prog,24,w,[],by simp⟩) hv0 rfl []
 repeat' first|apply jS|apply jO|apply jN|refine Q1 ?_|refine Q0 ?_|refine Zv (h:=?_)|apply jT
 refine Yv rfl rfl rfl rfl rfl oq oq (fun b=>?_)
 have h0:=Xc b n (by simp only[maxLen];omega)
 repeat' first|apply jS|apply jO|apply jN|apply jT|refine Q1 ?_|refine Q0 ?_|refine Zv (h:=?_)|apply jB
 refine Qp (ι:=Nat × aj) ⟨fun z=>[(11,nv z.1),(10,nv n),(9,.slice A0 n c0),(3,.slice (some ⟨b,0,none⟩) n n),(0,.slice A0 n c0)],
  fun z=>z.2++[],fun z=>z.1≤n∧aG z.2 (.slice (some ⟨b,0,none⟩) n n) n (tab n fun i=>if i<z.1 then xs.getD i 0 else 0),fun z=>n-z.1⟩ (0,_) ⟨by omega,by simpa using h0⟩ aF (HSub.refl _) (fun k hk=>?_)
 obtain⟨k,N⟩:=k
 obtain⟨hkn,hO⟩:=hk
 dsimp only at hkn hO ⊢
 by_cases hlt:k<n
 ·repeat' first|apply jS|apply jO|apply jN|apply jT|refine Q1 ?_|refine Q0 ?_|refine Q7 ?_|refine Zn (h:=?_)|refine XD (h:=?_)|refine Q2 ?_|(refine Qs (h1:=?_) (h2:=?_)<;>intro hc<;>try omega)|refine Qc fun _=>?_|refine Zh (h:=?_)|refine Q2 ?_|apply jK|refine Q8 rfl ?_|apply jB
  refine Q5 aA rfl aH rfl (fun w _ _=>Qj4 w _ _ (xs.getD k 0) 0 K (Qi (hx k)) (is0 K) oq) fun w v w' _ _ _ hR=>?_
  subst hR
  repeat' first|refine Zn (h:=?_)|fail
  refine Q27 (A:=[_]) hO rfl rfl aA rfl rfl hlt (fun N' aU=>?_)
  rw[Q64]at aU
  repeat' first|apply jO|apply jN|apply jT|refine Q1 ?_|refine Qj ?_|apply jW
  exact Qa (k+1,N') ⟨by dsimp only;omega,aU⟩ aY aF (by exact HSub.skip (HSub.refl _))
 ·repeat' first|apply jS|apply jO|apply jN|apply jT|refine Q1 ?_|refine Q0 ?_|(refine Qs (h1:=?_) (h2:=?_)<;>intro hc<;>try omega)|apply jU|apply jE|apply jR|refine Q4 rfl ?_|apply Qe
  obtain rfl:k=n:=by omega
  rw[Q91 hlen]at hO
  exact Qn rfl (fun a w' st=>⟨st.kp,N,st.aS rfl (by simpa using HSub.refl _),hO⟩)


theorem Qbq (n:Int) {m:Int} (hm:0<m) : -m<n.tmod m∧n.tmod m<m:=by
 have h1:=Int.tmod_lt_of_pos n hm
 have h2:=Int.lt_tmod_of_pos n hm
 omega
theorem Qrr (n:Int) {m:Int} (hm:0<m):(n.tmod m+m).tmod m=n % m:=by
 have h:=Qbq n hm
 rw[Int.tmod_eq_emod_of_nonneg oq]
 have h1:(n.tmod m+m) % m=n.tmod m % m:=by simp
 rw[h1]
 have h2:=Int.tmod_add_mul_tdiv n m
 rw[show n.tmod m=n+m*(-(n.tdiv m)) by rw[Int.mul_neg];omega,Int.add_mul_emod_self_left]

theorem Qiv (w:World) (n m:Int) (hm:0<m) (hb:m<8000000000000) :
  Calls Tryz.prog 46 #[iv n,iv m] w (aP fun v w'=>Kp [] w w'∧v=iv (n % m)):=by
 have h:=Qbq n hm
 refine Q9 [] [] au [] Tryz.func46 rfl mixed (by kernel_rfl) Tryz.ntmps46 Tryz.results46 rfl ⟨by simp,by simp⟩ au ?_
 simp only[toS,Qd,Qt,Qk,Ql,ay,Qg,QA,aC]
 repeat' first|apply jS|apply jO|apply jN|apply jT|refine Q1 ?_|refine Q0 ?_|refine Qgt (h:=?_)|refine Qra (h:=?_)|apply jR
 exact Qn rfl (fun a' w' st=>⟨st.kp,congrArg iv (Qrr n hm)⟩)

theorem Qpt (w:World) (v:Value) (n:Nat) (L:List Int) (hv:WI w v n L) (hn:n≤2000000) (hI:∀ i,I64 (L.getD i 0)) :
  Calls Tryz.prog 44 #[v] w (aP fun v w'=>Kp [] w w'∧∃ N,New N w w'∧aG N v n L):=by
 have hlen:L.length=n:=by simpa using hv.1
 obtain⟨A0,c0,rfl⟩:=hv.form
 have hv0:=hv
 refine Q9 [] [] au [] Tryz.func44 rfl mixed (by kernel_rfl) Tryz.ntmps44 Tryz.results44 rfl ⟨by simp,by simp⟩ au ?_
 simp only[toS,Qd,Qt,Qk,Ql,ay,Qg,QA,aC]
 have hR:RdI ⟨Tryz.prog,19,w,[],by simp⟩ [] (.slice A0 n c0) n L:=hv0.rd rfl []
 repeat' first|apply jS|apply jO|apply jN|apply jT|refine Q1 ?_|refine Q0 ?_|refine YB (h:=?_)|apply jB
 refine Qp (ι:=Nat × aj × Value) ⟨fun z=>[(8,nv z.1),(7,nv n),(6,.slice A0 n c0),(3,z.2.2),(0,.slice A0 n c0)],fun z=>z.2.1++[],
  fun z=>z.1≤n∧aG z.2.1 z.2.2 z.1 (L.take z.1),fun z=>n-z.1⟩ (0,[],.slice none 0 0) ⟨by omega,by simpa using aG.nil⟩ aF (HSub.nil _) (fun z hz=>?_)
 obtain⟨k,N,vo⟩:=z
 obtain⟨hk,hO⟩:=hz
 dsimp only at hk hO ⊢
 obtain⟨Ao,co,rfl⟩:=hO.form
 by_cases hkk:k<n
 ·have hIk:=hI k
  repeat' first|apply jS|apply jO|apply jN|apply jT|refine Q1 ?_|refine Q0 ?_|refine Q8y (h:=?_)|refine Qgl (h:=?_)|(refine Qs (h1:=?_) (h2:=?_)<;>intro hc<;>try omega)|apply jK|refine Q8 rfl ?_|apply jB
  refine Q5 aA rfl rfl rfl (fun w _ _=>XF w (L.getD k 0) hIk.1 hIk.2) fun w v w' _ _ _ hR=>?_
  subst hR
  skip
  refine X4 (sz:=2) (vs:=[Wv (L.getD k 0)]) (cl:=[.bool (wz (L.getD k 0)).1,sv (wz (L.getD k 0)).2]) rfl rfl (by first|rfl|trivial|exact⟨rfl,rfl⟩) rfl rfl (fun v hv=>by
   cases List.mem_singleton.1 hv;rfl) rfl dq dq (fun b=>?_)
  have h1:=Q3l b (L.getD k 0)
  skip
  refine Y3 (A:=[_]) (B:=[]) hO h1.rd Q6 rfl aA rfl rfl rfl rfl oq (fun v' N' aU=>?_)
  rw[show L.take k++[L.getD k 0]=L.take (k+1) by
   rw[List.take_add_one,Xj (d:=0) oq];rfl]at aU
  repeat' first|apply jO|apply jN|apply jT|refine Q1 ?_|refine Q0 ?_|refine Qj ?_|apply jW
  exact Qa (k+1,N',v') ⟨by dsimp only;omega,aU⟩ aY aF (by exact HSub.skip (HSub.refl _))
 ·repeat' first|apply jS|apply jO|apply jN|apply jT|refine Q1 ?_|refine Q0 ?_|(refine Qs (h1:=?_) (h2:=?_)<;>intro hc<;>try omega)|apply jU|apply jE|apply jR|refine Q4 rfl ?_|apply Qe
  obtain rfl:k=n:=by omega
  rw[← hlen,List.take_length,hlen]at hO
  exact Qn rfl (fun a w' st=>⟨st.kp,N,st.aS rfl (by simpa using HSub.refl _),hO⟩)

section
variable {c:Cx} {Q:Exit→Act→World→Prop} {m:Mode} {F:ak} {H:aj} {r:List dA} {g:Option (Option Tmp × Bool)} {ns:Bool} {d:Tmp} {ty t t':TypeId} {x y:Operand}
theorem Qri {i j:Int} (hd:Qx c.n (some d)=true) (hg:Qh F g=some true) (hx:ev F x=some (.int .i64 i)) (hy:ev F y=some (.int .i64 j))
  (h:JO c Q m r ((d,iv (IntKind.i64.wrap (i+j)))::F) H):JO c Q m (⟨some d,.binOp .add t x y t',ty,g,.bC,ns⟩::r) F H :=
 ZQ hd hg hx hy (fun w=>by rw[binOp_add];simp[Op.intArith]) h
end

def Q06 (L:List Int) (n s k:Nat):Int:=if n=0 then 0 else IntKind.i64.wrap (L.getD (k % n) 0+(k / n:Nat)) % (2*(s:Int)+1)-s
def Q4w (L:List Int) (n s k:Nat):List Int:=(List.range k).map (Q06 L n s)
theorem Q6c (L:List Int) (n s k:Nat):Q4w L n s k++[Q06 L n s k]=Q4w L n s (k+1):=by
 unfold Q4w;rw[List.range_succ,Vl];rfl
theorem Qhg (L:List Int) (n s k:Nat):(Q4w L n s k).length=k:=by simp[Q4w]
theorem Qd1 (L:List Int) (n s k:Nat):(Q06 L n s k).natAbs≤s:=by
 unfold Q06
 split
 ·omega
 ·have h1:=Int.emod_nonneg (IntKind.i64.wrap (L.getD (k % n) 0+(k / n:Nat))) (show (2*(s:Int)+1)≠0 by omega)
  have h2:=Int.emod_lt_of_pos (IntKind.i64.wrap (L.getD (k % n) 0+(k / n:Nat))) (show 0<(2*(s:Int)+1) by omega)
  omega

theorem Qq2 (w:World) (v:Value) (n k0 s:Nat) (L:List Int) (hv:WI w v n L) (hn:n<9223372036854775808) (hk0:k0≤1000) (hs0:s≤2000000000000) :
  Calls Tryz.prog 30 #[v,nv k0,nv s] w (aP fun v w'=>Kp [] w w'∧∃ N,New N w w'∧aG N v k0 (Q4w L n s k0)):=by
 have hlen:L.length=n:=by simpa using hv.1
 obtain⟨A0,c0,rfl⟩:=hv.form
 have hv0:=hv
 refine Q9 [⟨7,1,[0,1,2,3,4,5,6,7,8,9,10,11,12,13,14,16,15,17,18],[]⟩] [] au [] Tryz.func30 rfl mixed (by kernel_rfl) Tryz.ntmps30 Tryz.results30 rfl ⟨by simp,by simp⟩ au ?_
 simp only[toS,Qd,Qt,Qk,Ql,ay,Qg,QA,aC]
 have hR:RdI ⟨Tryz.prog,42,w,[],by simp⟩ [] (.slice A0 n c0) n L:=hv0.rd rfl []
 repeat' first|apply jS|apply jO|apply jN|apply jT|refine Q0 ?_|apply jB
 refine Qp (ι:=Nat × aj × Value) ⟨fun z=>[(8,nv z.1),(7,z.2.2),(0,.slice A0 n c0),(1,nv k0),(2,nv s)],fun z=>z.2.1++[],
  fun z=>z.1≤k0∧aG z.2.1 z.2.2 z.1 (Q4w L n s z.1),fun z=>k0-z.1⟩ (0,[],.slice none 0 0) ⟨by omega,aG.nil⟩ aF (HSub.nil _) (fun z hz=>?_)
 obtain⟨k,N,vo⟩:=z
 obtain⟨hk,hO⟩:=hz
 dsimp only at hk hO ⊢
 obtain⟨Ao,co,rfl⟩:=hO.form
 by_cases hkk:k<k0
 ·have hE:=Qd1 L n s k
  have hEd:Q06 L n s k=if n=0 then 0 else IntKind.i64.wrap (L.getD (k % n) 0+(k / n:Nat)) % (2*(s:Int)+1)-s:=rfl
  by_cases hn0:n=0
  ·rw[if_pos hn0]at hEd
   repeat' first|apply jS|apply jO|apply jN|apply jT|refine Q1 ?_|refine Q0 ?_|refine YB (h:=?_)|(refine Qs (h1:=?_) (h2:=?_)<;>intro hc<;>try omega)|(refine Zg (h1:=?_) (h2:=?_)<;>intro hc<;>try omega)|apply jK|refine Q8 rfl ?_|refine Q4 rfl ?_|apply jB
   rw[show (0:Int)=Q06 L n s k from hEd.symm]
   refine Q5 aA rfl rfl rfl (fun w _ _=>XF w (Q06 L n s k) oq oq) fun w v w' _ _ _ hR=>?_
   subst hR
   skip
   refine X4 (sz:=2) (vs:=[Wv (Q06 L n s k)]) (cl:=[.bool (wz (Q06 L n s k)).1,sv (wz (Q06 L n s k)).2]) rfl rfl (by first|rfl|trivial|exact⟨rfl,rfl⟩) rfl rfl (fun v hv=>by
    cases List.mem_singleton.1 hv;rfl) rfl dq dq (fun b=>?_)
   have h1:=Q3l b (Q06 L n s k)
   skip
   refine Y3 (A:=[_]) (B:=[]) hO h1.rd Q6 rfl aA rfl rfl rfl rfl oq (fun v' N' aU=>?_)
   rw[Q6c]at aU
   repeat' first|apply jO|apply jN|apply jT|refine Q1 ?_|refine Q0 ?_|refine Qj ?_|apply jW
   exact Qa (k+1,N',v') ⟨by dsimp only;omega,aU⟩ aY aF (by exact HSub.skip (HSub.refl _))
  ·rw[if_neg hn0]at hEd
   have hm0:=Nat.mod_lt k (show 0<n by omega)
   have hd0:=Nat.div_le_self k n
   repeat' first|apply jS|apply jO|apply jD|apply jN|apply jT|refine Q1 ?_|refine Q0 ?_|refine Q8y (h:=?_)|refine Qgl (h:=?_)|refine YB (h:=?_)|refine Q0e (h:=?_)|refine Ws (h:=?_)|(refine Qs (h1:=?_) (h2:=?_)<;>intro hc<;>try omega)|(refine Zg (h1:=?_) (h2:=?_)<;>intro hc<;>try omega)|apply jK|refine Q8 rfl ?_|apply jB
   refine Qri (i:=L.getD (k % n) 0) (j:=((k / n:Nat):Int)) rfl rfl rfl rfl ?_
   repeat' first|refine Q1 ?_|refine Qgt (h:=?_)|refine Qr8 (h:=?_)|fail
   refine Q5 aA rfl aH rfl (fun w _ _=>Qiv w (IntKind.i64.wrap (L.getD (k % n) 0+(k / n:Nat))) (2*(s:Int)+1) oq oq) fun w v w' _ _ _ hR=>?_
   subst hR
   have hem1:=Int.emod_nonneg (IntKind.i64.wrap (L.getD (k % n) 0+(k / n:Nat))) (show (2*(s:Int)+1)≠0 by omega)
   have hem2:=Int.emod_lt_of_pos (IntKind.i64.wrap (L.getD (k % n) 0+(k / n:Nat))) (show 0<(2*(s:Int)+1) by omega)
   generalize IntKind.i64.wrap (L.getD (k % n) 0+(k / n:Nat)) % (2*(s:Int)+1)=em at hem1 hem2 hEd ⊢
   repeat' first|apply jO|apply jN|refine Q1 ?_|refine Q0 ?_|refine Xp (h:=?_)|apply jT
   rw[← hEd]
   refine Q5 aA rfl rfl rfl (fun w _ _=>XF w (Q06 L n s k) oq oq) fun w v w' _ _ _ hR=>?_
   subst hR
   skip
   refine X4 (sz:=2) (vs:=[Wv (Q06 L n s k)]) (cl:=[.bool (wz (Q06 L n s k)).1,sv (wz (Q06 L n s k)).2]) rfl rfl (by first|rfl|trivial|exact⟨rfl,rfl⟩) rfl rfl (fun v hv=>by
    cases List.mem_singleton.1 hv;rfl) rfl dq dq (fun b=>?_)
   have h1:=Q3l b (Q06 L n s k)
   skip
   refine Y3 (A:=[_]) (B:=[]) hO h1.rd Q6 rfl aA rfl rfl rfl rfl oq (fun v' N' aU=>?_)
   rw[Q6c]at aU
   repeat' first|apply jO|apply jN|apply jT|refine Q1 ?_|refine Q0 ?_|refine Qj ?_|apply jW
   exact Qa (k+1,N',v') ⟨by dsimp only;omega,aU⟩ aY aF (by exact HSub.skip (HSub.refl _))
 ·repeat' first|apply jS|apply jO|apply jN|apply jT|refine Q1 ?_|refine Q0 ?_|(refine Qs (h1:=?_) (h2:=?_)<;>intro hc<;>try omega)|apply jU|apply jE|apply jR|refine Q4 rfl ?_|apply Qe
  obtain rfl:k=k0:=by omega
  exact Qn rfl (fun a w' st=>⟨st.kp,N,st.aS rfl (by simpa using HSub.refl _),hO⟩)


theorem Qfo {n B:Nat} {f:Nat→Int} (hn:n≤200) (h:∀ i,(f i).natAbs<256 ^ B):(aN n f).natAbs<256 ^ (B+1):=by
 have h1:=Qft (n:=n) (f:=f) (B:=256 ^ B) fun i _=>Nat.le_of_lt (h i)
 have h2:=V1 (256 ^ B) hn
 have h3:=bG B
 rw[Va]
 omega
theorem Q8p {f:Nat→Int} {n:Nat}:tab (n+1) f=tab n f++[f n]:=by simp[tab,List.range_succ]
theorem Qrk {K L:Nat} {xs ys:List Int} (hx:fK K xs) (hy:fK L ys) (k:Nat):(xs.getD k 0*ys.getD k 0).natAbs<256 ^ (K+L):=X2 (hx k) (hy k)

theorem Qmw (K L:Nat) (w:World) (v u:Value) (n:Nat) (xs ys:List Int) (hv:WZ w v n xs) (hu:WZ w u n ys) (hn:n≤200) (hK:K+L≤8000000) (hx:fK K xs) (hy:fK L ys) :
  Calls Tryz.prog 80 #[v,u] w (aP fun v w'=>Kp [] w w'∧v=Wv (aN n fun i=>xs.getD i 0*ys.getD i 0)):=by
 obtain⟨A0,c0,rfl⟩:=hv.form
 obtain⟨A1,c1,rfl⟩:=hu.form
 refine Q9 [⟨5,1,[],[]⟩] [] au [] Tryz.func80 rfl mixed (by kernel_rfl) Tryz.ntmps80 Tryz.results80 rfl ⟨by simp,by simp⟩ au ?_
 simp only[toS,Qd,Qt,Qk,Ql,ay,Qg,QA,aC]
 have hR:=WZ.rd (c:=⟨Tryz.prog,25,w,[],by simp⟩) hv rfl []
 have hR':=WZ.rd (c:=⟨Tryz.prog,25,w,[],by simp⟩) hu rfl []
 repeat' first|apply jS|apply jO|apply jN|apply jT|refine Q0 ?_|refine Qc fun _=>?_|apply jB
 rename_i b4 b5
 refine Qp (ι:=Nat) ⟨fun z=>[(6,nv z),(5,.pointer (some ⟨b5,0,none⟩)),(4,.pointer (some ⟨b4,0,none⟩)),(0,.slice A0 n c0),(1,.slice A1 n c1)],
  fun z=>[(b5,.cells #[.bool (wz (aN z fun i=>xs.getD i 0*ys.getD i 0)).1,sv (wz (aN z fun i=>xs.getD i 0*ys.getD i 0)).2] 35),(b4,.cells #[.bool false,sv []] 35)],fun z=>z≤n,fun z=>n-z⟩ 0 (V9 _) aF (by simp only[aN,eU];exact HSub.refl _) (fun k hk=>?_)
 dsimp only at hk ⊢
 have hS:=Qfo (n:=k) oq (Qrk hx hy)
 by_cases hlt:k<n
 ·repeat' first|apply jS|apply jO|apply jD|apply jN|apply jT|refine Q1 ?_|refine Q7 ?_|refine Zn (h:=?_)|refine XD (h:=?_)|refine Zv (h:=?_)|(refine Qs (h1:=?_) (h2:=?_)<;>intro hc<;>try omega)|apply jK|refine Q8 rfl ?_|apply jB
  refine Q5 aA rfl aH rfl (fun w _ _=>Q9z w _ _ (xs.getD k 0) (ys.getD k 0) (K+L) (Qi (Y6 (hx k) oq)) (Qi (Y6 (hy k) oq)) oq) fun w v w' _ _ _ hR=>?_
  subst hR
  skip
  refine Q5 aA rfl aH rfl (fun w _ _=>Q5h w _ _ (aN k fun i=>xs.getD i 0*ys.getD i 0) (xs.getD k 0*ys.getD k 0) (K+L+1) (Qi hS) (Qi (Y6 (Qrk hx hy k) oq)) oq) fun w v w' _ _ _ hR=>?_
  subst hR
  rw[show (aN k fun i=>xs.getD i 0*ys.getD i 0)+xs.getD k 0*ys.getD k 0=aN (k+1) fun i=>xs.getD i 0*ys.getD i 0 from rfl]
  repeat' first|apply jO|apply jN|apply jT|refine Q1 ?_|refine Q0 ?_|refine Qj ?_|refine Q2 ?_|refine Q2 ?_|apply jW
  exact Qa (k+1) aY aY aF (HSub.refl _)
 ·repeat' first|apply jS|apply jO|apply jN|apply jT|refine Q1 ?_|refine Q7 ?_|refine Zv (h:=?_)|refine Q2 ?_|(refine Qs (h1:=?_) (h2:=?_)<;>intro hc<;>try omega)|refine Q2 ?_|apply jU|apply jE|apply jR|refine Q4 rfl ?_|apply Qe
  obtain rfl:k=n:=by omega
  exact QQ 1 rfl rfl rfl (fun a w' st=>⟨st.kp,rfl⟩)

theorem Qso (w:World) (v:Value) (m:ZM) (j:Nat) (hm:cO m) (hj:j<m.c) (hv:fO w v m) :
  Calls Tryz.prog 29 #[v,nv j] w (aP fun v w'=>Kp [] w w'∧∃ N,New N w w'∧aG N v m.r (tab m.r fun i=>m.at i j)):=by
 have hle:=hm.le
 have hl:=hm.len
 have hr:=hm.r
 have hc:=hm.c
 obtain⟨E,rfl,hE⟩:=hv
 rw[hl]at hE
 obtain⟨A0,c0,rfl⟩:=hE.form
 refine Q9 [] [] au [] Tryz.func29 rfl mixed (by kernel_rfl) Tryz.ntmps29 Tryz.results29 rfl ⟨by simp,by simp⟩ au ?_
 simp only[toS,Qd,Qt,Qk,Ql,ay,Qg,QA,aC]
 have hR:=WZ.rd (c:=⟨Tryz.prog,27,w,[],by simp⟩) hE rfl []
 repeat' first|apply jS|apply jO|apply jN|apply jT|refine Q0 ?_|refine QB fun _=>?_|apply jB
 rename_i b2
 refine Qp (ι:=Nat × aj × Value) ⟨fun z=>[(6,nv z.1),(5,z.2.2),(2,.pointer (some ⟨b2,0,none⟩)),(1,nv j)],fun z=>[(b2,.cells #[nv m.r,nv m.c,.slice A0 (m.r*m.c) c0] 26)]++(z.2.1++[]),
  fun z=>z.1≤m.r∧aG z.2.1 z.2.2 z.1 (tab z.1 fun i=>m.at i j),fun z=>m.r-z.1⟩ (0,[],.slice none 0 0) ⟨by omega,aG.nil⟩ aF (HSub.refl _) (fun z hz=>?_)
 obtain⟨k,N,vo⟩:=z
 obtain⟨hk,hO⟩:=hz
 dsimp only at hk hO ⊢
 obtain⟨Ao,co,rfl⟩:=hO.form
 by_cases hkk:k<m.r
 ·have hi:=Q0z hkk hj
  have hkc:k*m.c≤40000:=Vr (show k≤200 by omega) hc
  repeat' first|apply jS|apply jO|apply jN|apply jT|refine Q1 ?_|refine Q3 ?_|refine Qb ?_|refine Zn (h:=?_)|refine XD (h:=?_)|refine Zf (h:=?_)|refine ZK (h:=?_)|(refine Qs (h1:=?_) (h2:=?_)<;>intro hc<;>try omega)|apply jK|refine Q8 rfl ?_|apply jB
  rw[show m.e.getD (k*m.c+j) 0=m.at k j from rfl]
  refine X4 (sz:=2) (vs:=[Wv (m.at k j)]) (cl:=[.bool (wz (m.at k j)).1,sv (wz (m.at k j)).2]) rfl rfl (by first|rfl|trivial|exact⟨rfl,rfl⟩) rfl rfl (fun v hv=>by
   cases List.mem_singleton.1 hv;rfl) rfl dq dq (fun b=>?_)
  have h1:=Q3l b (m.at k j)
  skip
  refine Y3 (A:=[_,_]) (B:=[]) hO h1.rd Q6 rfl aA rfl rfl rfl rfl oq (fun v' N' aU=>?_)
  rw[← Q8p (f:=fun i=>m.at i j)]at aU
  repeat' first|apply jO|apply jN|apply jT|refine Q1 ?_|refine Q0 ?_|refine Qj ?_|apply jW
  exact Qa (k+1,N',v') ⟨by dsimp only;omega,aU⟩ aY aF (by exact HSub.skip (HSub.refl _))
 ·repeat' first|apply jS|apply jO|apply jN|apply jT|refine Q1 ?_|refine Q3 ?_|refine Q0 ?_|refine Qb ?_|(refine Qs (h1:=?_) (h2:=?_)<;>intro hc<;>try omega)|apply jU|apply jE|apply jR|refine Q4 rfl ?_|apply Qe
  obtain rfl:k=m.r:=by omega
  exact Qn rfl (fun a w' st=>⟨st.kp,N,st.aS rfl Q6,hO⟩)

theorem Qj1 (K:Nat) (w:World) (v:Value) (n:Nat) (xs:List Int) (hv:WZ w v n xs) (hn:n≤200) (hK:K≤8000000) (hx:fK K xs) :
  Calls Tryz.prog 67 #[v] w (aP fun v w'=>Kp [] w w'∧Q36 (iV xs) w v w'):=by
 have hlen:xs.length=n:=by simpa using hv.len
 obtain⟨A0,c0,rfl⟩:=hv.form
 refine Q9 [⟨5,2,[],[]⟩] [] au [] Tryz.func67 rfl mixed (by kernel_rfl) Tryz.ntmps67 Tryz.results67 rfl ⟨by simp,by simp⟩ au ?_
 simp only[toS,Qd,Qt,Qk,Ql,ay,Qg,QA,aC]
 have hR:=WZ.rd (c:=⟨Tryz.prog,25,w,[],by simp⟩) hv rfl []
 repeat' first|apply jS|apply jO|apply jN|refine Q1 ?_|refine Zv (h:=?_)|refine Qc fun _=>?_|apply jT
 rename_i b2
 refine Qf (A:=[_]) (B:=[]) rfl trivial rfl rfl rfl (fun w _ _=>Q1u n 1 hn oq w) fun w v w' _ _ _ hR=>?_
 obtain⟨N,Eo,hN,rfl,hO⟩:=hR
 rw[Nat.mul_one]at hO
 obtain⟨Ao,co,rfl⟩:=hO.form
 refine⟨N,hN,?_⟩
 repeat' first|apply jS|apply jO|apply jN|apply jT|refine Q0 ?_|refine Q2 ?_|refine Qc fun _=>?_|refine Q2 ?_|apply jB
 rename_i b3
 refine Qp (ι:=Nat × aj) ⟨fun z=>[(4,nv z.1),(0,.slice A0 n c0),(3,.pointer (some ⟨b3,0,none⟩)),(2,.pointer (some ⟨b2,0,none⟩))],
  fun z=>[(b3,.cells #[nv n,nv 1,.slice Ao n co] 26),(b2,.cells #[iv 0,iv 0,.slice none 0 0] 26)]++(z.2++[]),
  fun z=>z.1≤n∧aG z.2 (.slice Ao n co) n (tab n fun i=>if i<z.1 then xs.getD i 0 else 0),fun z=>n-z.1⟩ (0,N) ⟨by omega,by simpa using hO⟩ aF Qy (fun k hk=>?_)
 obtain⟨k,N⟩:=k
 obtain⟨hkn,hO⟩:=hk
 dsimp only at hkn hO ⊢
 by_cases hlt:k<n
 ·repeat' first|apply jS|apply jO|apply jD|apply jN|apply jT|refine Q1 ?_|refine Q3 ?_|refine Qb ?_|refine Zn (h:=?_)|refine XD (h:=?_)|refine Zv (h:=?_)|(refine Qs (h1:=?_) (h2:=?_)<;>intro hc<;>try omega)|refine Zh (h:=?_)|apply jK|refine Q8 rfl ?_|apply jB
  refine Q5 aA rfl aH rfl (fun w _ _=>Q5h w _ _ (xs.getD k 0) 0 K (Qi (hx k)) (is0 K) oq) fun w v w' _ _ _ hR=>?_
  subst hR
  repeat' first|refine Zn (h:=?_)|fail
  refine Q27 (A:=[_,_]) hO rfl rfl aA rfl rfl hlt (fun N' aU=>?_)
  rw[Q64]at aU
  repeat' first|apply jO|apply jN|apply jT|refine Q1 ?_|refine Q0 ?_|refine Qj ?_|apply jW
  exact Qa (k+1,N') ⟨by dsimp only;omega,aU⟩ aY aF Qy
 ·repeat' first|apply jS|apply jO|apply jN|apply jT|refine Q1 ?_|refine Q7 ?_|refine Zv (h:=?_)|refine Q2 ?_|(refine Qs (h1:=?_) (h2:=?_)<;>intro hc<;>try omega)|refine Q2 ?_|apply jU|apply jE|apply jR|refine Q4 rfl ?_|apply Qe
  obtain rfl:k=n:=by omega
  rw[Q91 hlen]at hO
  refine QQ 1 rfl rfl rfl (fun a w' st=>⟨st.kp,N,st.aS rfl Q6,?_⟩)
  rw[← hlen]at hO ⊢
  exact fZ.mk' hO


section
variable {c:Cx} {Q:Exit→Act→World→Prop} {m:Mode} {F:ak} {H:aj} {r:List dA} {g:Option (Option Tmp × Bool)} {ns:Bool} {d:Tmp} {ty t t':TypeId} {x y:Operand}
theorem Q29 {A B N N2:aj} {v v2:Value} {n k:Nat} {xs ys:List Int} [dF c.P t 3] [TE c.P 3 1 8 #[iv 0]] (hO:dX N v n xs) (h2:RdI c N2 v2 k ys) (fA:HSub N2 H) (hH:H=A++(N++B)) (hm:m.aW ns r) (hd:Qx c.n (some d)=true) (hg:Qh F g=some true) (hx:ev F x=some v) (hy:ev F y=some v2)
  (hb:n+k≤10000000000) (h:∀ v' N',dX N' v' (n+k) (xs++ys)→JO c Q m.spent r ((d,v')::F) (A++(N'++B))) :
  JO c Q m (⟨some d,.call ⟨.builtin .append,#[x,y],#[t,t]⟩,ty,g,.seq,ns⟩::r) F H :=
 XR (e:=3) (sz:=1) (bytes:=8) (zc:=#[iv 0]) (xs:=xs.map iv) (news:=ys.map iv) (n:=n) (mm:=k) rfl hO h2 fA hH hm hd hg hx hy (fun u hu=>by obtain⟨a,_,rfl⟩:=List.mem_map.1 hu;rfl) (by simp only[maxLen];omega) oq (fun v' N' h'=>h v' N' (by unfold dX;rw[Vl];exact h'))
theorem Qoe {A B N N2:aj} {v v2 u:Value} {n:Nat} {ss:List Value} [dF c.P t 48] [TE c.P 48 1 24 #[.slice none 0 0]] (hO:aB 48 1 N v n ss) (h2:Rd c N2 1 v2 1 [u]) (hu:u.oneCell'=true) (fA:HSub N2 H) (hH:H=A++(N++B)) (hm:m.aW ns r) (hd:Qx c.n (some d)=true) (hg:Qh F g=some true) (hx:ev F x=some v) (hy:ev F y=some v2)
  (hb:n+1≤1000000000) (h:∀ v' N',aB 48 1 N' v' (n+1) (ss++[u])→JO c Q m.spent r ((d,v')::F) (A++(N'++B))) :
  JO c Q m (⟨some d,.call ⟨.builtin .append,#[x,y],#[t,t]⟩,ty,g,.seq,ns⟩::r) F H :=
 XR (e:=48) (sz:=1) (bytes:=24) (zc:=#[.slice none 0 0]) (n:=n) (mm:=1) rfl hO h2 fA hH hm hd hg hx hy (fun w hw=>by cases List.mem_singleton.1 hw;exact hu) (by simp only[maxLen];omega) oq h
end
theorem Qrm (b:Nat) (u:Value):aB 48 1 [(b,.cells ⟨[u]⟩ 48)] (.slice (some ⟨b,0,none⟩) 1 1) 1 [u] :=
 aB.mk' (e:=48) (sz:=1) (n:=1) (b:=b) (cs:=⟨[u]⟩) au (by simp only[maxLen];omega)
theorem Q66 (b:Nat) (u:Int):dX [(b,.cells ⟨[iv u]⟩ 3)] (.slice (some ⟨b,0,none⟩) 1 1) 1 [u] :=
 aB.mk' (e:=3) (sz:=1) (n:=1) (b:=b) (cs:=⟨[iv u]⟩) au (by simp only[maxLen];omega)
theorem aB.form4 {e:TypeId} {sz n:Nat} {N:aj} {v:Value} {cs:List Value} (h:aB e sz N v n cs):∃ A cap,v=.slice A n cap:=by
 obtain⟨_,⟨rfl,rfl,rfl⟩|⟨b,cap,cur,rfl,_⟩⟩:=h
 ·exact⟨_,_,rfl⟩
 ·exact⟨_,_,rfl⟩

def smE (X:List (List Int)) (f:Int) (i j:Nat):Int:=if (i+j) % 2=0 then ((X.getD i []).getD j 0 % 13-6)*(1+f % 3) else (X.getD i []).getD j 0 % 13-6
def Q37 (X:List (List Int)) (f:Int) (i k:Nat):List Int:=tab k (smE X f i)
def smN (X:List (List Int)) (i:Nat):Nat:=min (X.getD i []).length 5
def gG (X:List (List Int)) (f:Int):List (List Int):=tab (min X.length 5) fun i=>Q37 X f i (smN X i)
theorem Q5v (X:List (List Int)) (f:Int) (i k:Nat):Q37 X f i (k+1)=Q37 X f i k++[smE X f i k]:=Q8p
theorem Qqv (X:List (List Int)) (f:Int) (i j:Nat):(smE X f i j).natAbs≤18:=by
 unfold smE
 generalize (X.getD i []).getD j 0=e
 have h1:=Int.emod_nonneg e (show (13:Int)≠0 by decide)
 have h2:=Int.emod_lt_of_pos e (show (0:Int)<13 by decide)
 have h3:=Int.emod_nonneg f (show (3:Int)≠0 by decide)
 have h4:=Int.emod_lt_of_pos f (show (0:Int)<3 by decide)
 generalize e % 13=a at h1 h2 ⊢
 generalize f % 3=b at h3 h4 ⊢
 split
 ·rcases(show b=0∨b=1∨b=2 by omega)with rfl|rfl|rfl<;>omega
 ·omega
theorem Q24 (X:List (List Int)) (f:Int):(gG X f).length=min X.length 5:=by simp[gG]
theorem Q74 {X:List (List Int)} {f:Int} {i:Nat} (h:i<min X.length 5):(gG X f).getD i []=Q37 X f i (smN X i):=Zq h
theorem Qah {X:List (List Int)} {f:Int} {i:Nat} (h:¬i<min X.length 5):(gG X f).getD i []=[]:=by
 rw[List.getD,List.getElem?_eq_none (by rw[Q24];omega)];rfl
theorem Qfq (X:List (List Int)) (f:Int) (i:Nat):((gG X f).getD i []).length≤5:=by
 by_cases h:i<min X.length 5
 ·rw[Q74 h];simp only[Q37,W6,smN];omega
 ·rw[Qah h];exact V9 _
theorem Qm4 (X:List (List Int)) (f:Int) (i j:Nat):(((gG X f).getD i []).getD j 0).natAbs≤18:=by
 by_cases h:i<min X.length 5
 ·rw[Q74 h]
  unfold Q37
  by_cases hj:j<smN X i
  ·rw[Zq hj];exact Qqv X f i j
  ·rw[List.getD,List.getElem?_eq_none (by rw[W6];omega)];exact V9 _
 ·rw[Qah h];exact V9 _
theorem Qnr (X:List (List Int)) (f:Int) (i j:Nat):I64 (((gG X f).getD i []).getD j 0):=by
 have:=Qm4 X f i j
 unfold I64
 omega
theorem Qqu {X:List (List Int)} {f:Int} {w:World} {v:Value} {k:Nat} {ss:List Value} (hk:k=min X.length 5) (h:je w 1 v k ss) (hr:∀ i,i<k→WI w (ss.getD i (iv 0)) (smN X i) (Q37 X f i (smN X i))):fC w v (gG X f) :=
 ⟨ss, by rw [Q24, ← hk]; exact h, fun i hi => by
  rw[Q24, ← hk]at hi
  rw[Q74 oq,show (Q37 X f i (smN X i)).length=smN X i from W6 _ _]
  exact hr i hi⟩

theorem Qli (w:World) (v:Value) (X:List (List Int)) (f:Int) (hv:fC w v X) (hX:X.length<9223372036854775808) (hl:∀ i,i<X.length→(X.getD i []).length<9223372036854775808) :
  Calls Tryz.prog 14 #[v,iv f] w (aP fun v w'=>Kp [] w w'∧Q36 (ofZ (gG X f)) w v w'):=by
 obtain⟨ss,hs1,hs2⟩:=hv
 obtain⟨A0,c0,rfl⟩:∃ A c,v=.slice A X.length c:=by obtain⟨_,A,c,h,_⟩:=hs1;exact⟨A,c,h⟩
 have hsl:ss.length=X.length:=by have:=hs1.1;omega
 refine Q9 [] [] au [] Tryz.func14 rfl mixed (by kernel_rfl) Tryz.ntmps14 Tryz.results14 rfl ⟨by simp,by simp⟩ au ?_
 simp only[toS,Qd,Qt,Qk,Ql,ay,Qg,QA,aC]
 have hRa:Rd ⟨Tryz.prog,62,w,[],by simp⟩ [] 1 (.slice A0 X.length c0) X.length ss:=hs1.rd rfl []
 have hRr:∀ i,i<X.length→RdI ⟨Tryz.prog,62,w,[],by simp⟩ [] (ss.getD i (iv 0)) (X.getD i []).length (X.getD i []):=fun i hi=>(hs2 i hi).rd rfl []
 repeat' first|apply jS|apply jO|apply jN|apply jT|refine Q0 ?_|refine Qc fun _=>?_|apply jB
 rename_i b4
 refine Qp (ι:=Nat × aj × aj × Value × List Value) ⟨fun z=>[(6,nv z.1),(5,z.2.2.2.1),(4,.pointer (some ⟨b4,0,none⟩)),(0,.slice A0 X.length c0),(1,iv f)],fun z=>[(b4,.cells #[iv 0,iv 0,.slice none 0 0] 26)]++(z.2.1++(z.2.2.1++[])),
  fun z=>z.1≤5∧z.1≤X.length∧aB 48 1 z.2.1 z.2.2.2.1 z.1 z.2.2.2.2∧∀ i,i<z.1→RdI ⟨Tryz.prog,62,w,[],by simp⟩ z.2.2.1 (z.2.2.2.2.getD i (iv 0)) (smN X i) (Q37 X f i (smN X i)),fun z=>5-z.1⟩ (0,[],[],.slice none 0 0,[]) ⟨by dsimp only;omega,by dsimp only;omega,aB.nil _ 1,fun i hi=>absurd hi (Nat.not_lt_zero _)⟩ aF (HSub.refl _) (fun z hz=>?_)
 obtain⟨k,N,R,vl,sl⟩:=z
 obtain⟨hk5,hkX,hO,hsr⟩:=hz
 dsimp only at hk5 hkX hO hsr ⊢
 obtain⟨Al,cl,rfl⟩:=hO.form4
 by_cases hkk:k<X.length∧k<5
 ·obtain⟨hkk,hk5b⟩:=hkk
  have hlk:=hl k hkk
  obtain⟨Ar,cr,hAr⟩:∃ A c,ss.getD k (iv 0)=.slice A (X.getD k []).length c:=by obtain⟨_,A,c,h,_⟩:=hRr k hkk;exact⟨A,c,h⟩
  have hRk:=hRr k hkk
  rw[hAr]at hRk
  have hss:ss[k]?=some (.slice Ar (X.getD k []).length cr):=by rw[← hAr];exact Xj oq
  repeat' first|apply jS|apply jO|apply jN|apply jT|refine Q1 ?_|refine Q0 ?_|refine YB (h:=?_)|refine QD (h:=?_)|(refine Qs (h1:=?_) (h2:=?_)<;>intro hc<;>try omega)|apply jK|refine Q8 rfl ?_|apply jB
  refine Qp (ι:=Nat × aj × Value) ⟨fun z=>[(8,nv z.1),(7,z.2.2),(6,nv k),(5,.slice Al k cl),(4,.pointer (some ⟨b4,0,none⟩)),(0,.slice A0 X.length c0),(1,iv f)],fun z=>[(b4,.cells #[iv 0,iv 0,.slice none 0 0] 26)]++(z.2.1++(N++(R++[]))),
   fun z=>z.1≤5∧z.1≤(X.getD k []).length∧dX z.2.1 z.2.2 z.1 (Q37 X f k z.1),fun z=>5-z.1⟩ (0,[],.slice none 0 0) ⟨by dsimp only;omega,by dsimp only;omega,dX.nil⟩ aF (HSub.refl _) (fun z hz=>?_)
  obtain⟨j,Nr,vr⟩:=z
  obtain⟨hj5,hjX,hOr⟩:=hz
  dsimp only at hj5 hjX hOr ⊢
  obtain⟨Aw,cw,rfl⟩:=hOr.form
  repeat' first|apply jS|refine Q1 ?_|apply jO
  refine Yw rfl rfl rfl rfl hRa hkk ?_
  skip
  refine Q1d rfl rfl rfl rfl hRa (HSub.nil _) hss ?_
  by_cases hjj:j<(X.getD k []).length∧j<5
  ·obtain⟨hjj,hj5b⟩:=hjj
   repeat' first|apply jS|apply jO|apply jN|apply jT|refine Q1 ?_|refine YB (h:=?_)|refine QD (h:=?_)|(refine Qs (h1:=?_) (h2:=?_)<;>intro hc<;>try omega)|apply jK|refine Q8 rfl ?_|apply jB
   refine Yw rfl rfl rfl rfl hRa hkk ?_
   skip
   refine Q1d rfl rfl rfl rfl hRa (HSub.nil _) hss ?_
   repeat' first|refine Q1 ?_|refine Q8y (h:=?_)|refine Qgl (h:=?_)|fail
   refine Q5 aA rfl aH rfl (fun w _ _=>Qiv w ((X.getD k []).getD j 0) 13 oq oq) fun w v w' _ _ _ hR=>?_
   subst hR
   have hm1:=Int.emod_nonneg ((X.getD k []).getD j 0) (show (13:Int)≠0 by decide)
   have hm2:=Int.emod_lt_of_pos ((X.getD k []).getD j 0) (show (0:Int)<13 by decide)
   have hE:smE X f k j=if (k+j) % 2=0 then ((X.getD k []).getD j 0 % 13-6)*(1+f % 3) else (X.getD k []).getD j 0 % 13-6:=rfl
   generalize (X.getD k []).getD j 0 % 13=e0 at hm1 hm2 hE ⊢
   have hf1:=Int.emod_nonneg f (show (3:Int)≠0 by decide)
   have hf2:=Int.emod_lt_of_pos f (show (0:Int)<3 by decide)
   have hte:(((k+j:Nat):Int).tmod 2)=(((k+j) % 2:Nat):Int):=(Int.ofNat_tmod (k+j) 2).symm
   repeat' first|apply jS|apply jO|apply jN|apply jT|refine Q1 ?_|refine Q0 ?_|refine Zf (h:=?_)|refine Xp (h:=?_)|refine Qra (h:=?_)|(refine Z9 (h1:=?_) (h2:=?_)<;>intro hc<;>try omega)|refine QG (h:=fun _=>?_)|apply jK|refine Q8 rfl ?_|refine Q4 rfl ?_
   ·rw[if_pos oq]at hE
    refine Q5 aA rfl aH rfl (fun w _ _=>Qiv w f 3 oq oq) fun w v w' _ _ _ hR=>?_
    subst hR
    generalize f % 3=f3 at hf1 hf2 hE ⊢
    have hb1 : -18≤(e0-6)*(1+f3)∧(e0-6)*(1+f3)≤18:=by
     rcases(show f3=0∨f3=1∨f3=2 by omega)with rfl|rfl|rfl<;>omega
    repeat' first|apply jO|apply jN|refine Q1 ?_|refine Q0 ?_|refine Qgt (h:=?_)|refine Qr8 (h:=?_)|refine QG (h:=fun _=>?_)|apply jT
    rename_i b54
    refine Q29 (A:=[_,_]) (B:=N++(R++[])) hOr (Q66 b54 _).rd (HSub.at 0 rfl (HSub.nil _)) rfl aA rfl rfl rfl rfl oq (fun v' N' aU=>?_)
    rw[← hE, ← Q5v]at aU
    repeat' first|apply jO|apply jN|apply jT|refine Q1 ?_|refine Q0 ?_|refine Qj ?_|apply jW
    exact Qa (j+1,N',v') ⟨by dsimp only;omega,by dsimp only;omega,aU⟩ aY aF (HSub.skip (HSub.refl _))
   ·rw[if_neg oq]at hE
    rename_i b54
    refine Q29 (A:=[_,_]) (B:=N++(R++[])) hOr (Q66 b54 _).rd (HSub.at 0 rfl (HSub.nil _)) rfl aA rfl rfl rfl rfl oq (fun v' N' aU=>?_)
    rw[← hE, ← Q5v]at aU
    repeat' first|apply jO|apply jN|apply jT|refine Q1 ?_|refine Q0 ?_|refine Qj ?_|apply jW
    exact Qa (j+1,N',v') ⟨by dsimp only;omega,by dsimp only;omega,aU⟩ aY aF (HSub.skip (HSub.refl _))
  ·repeat' first|apply jO|apply jN|apply jT|refine Q1 ?_|refine YB (h:=?_)|refine QD (h:=?_)|refine QC (h:=?_)|(refine Qs (h1:=?_) (h2:=?_)<;>intro hc<;>try omega)|refine QG (h:=fun _=>?_)|apply jU|refine Q4 rfl ?_|apply Qe|refine QU (h:=?_)|apply jE
   all_goals
    rename_i b58
    refine Qoe (A:=(b58,.cells ⟨[Value.slice Aw j cw]⟩ 48)::(b4,.cells #[iv 0,iv 0,.slice none 0 0] 26)::Nr) (B:=R++[]) hO (Qrm b58 (Value.slice Aw j cw)).rd rfl (HSub.at 0 rfl (HSub.nil _)) rfl aA rfl rfl rfl rfl oq (fun v' N' aU=>?_)
    have hsr':∀ i,i<k+1→RdI ⟨Tryz.prog,62,w,[],by simp⟩ (Nr++R) ((sl++[(Value.slice Aw j cw)]).getD i (iv 0)) (smN X i) (Q37 X f i (smN X i)):=fun i hi=>by
     have hl0:sl.length=k:=by have:=hO.1;omega
     rcases Nat.lt_or_ge i k with h|h
     ·rw[List.getD,List.getElem?_append_left oq];exact Rd.up (hsr i h) (Qr (HSub.refl _))
     ·obtain rfl:i=k:=by omega
      have hjn:j=smN X i:=by unfold smN;omega
      rw[List.getD,List.getElem?_append_right oq,hl0,Nat.sub_self, ← hjn];exact Rd.up hOr.rd QI
    repeat' first|apply jO|apply jN|apply jT|refine Q1 ?_|refine Q0 ?_|refine Qj ?_|apply jW
    exact Qa (k+1,N',Nr++R,v',sl++[(Value.slice Aw j cw)]) ⟨by dsimp only;omega,by dsimp only;omega,aU,hsr'⟩ aY aF (HSub.skip (HSub.at 0 rfl (by simp only[Vj];exact Qlu (A:=Nr) (N:=N') (B:=R) (HSub.refl _))))
 ·have hkm:k=min X.length 5:=by omega
  repeat' first|apply jS|apply jO|apply jN|apply jT|refine Q1 ?_|refine YB (h:=?_)|refine QD (h:=?_)|refine QC (h:=?_)|(refine Qs (h1:=?_) (h2:=?_)<;>intro hc<;>try omega)|apply jU|refine Q4 rfl ?_|apply Qe|refine QU (h:=?_)|apply jE
  all_goals
   refine Qf (A:=[(b4,.cells #[iv 0,iv 0,.slice none 0 0] 26)]) (B:=N++(R++[])) rfl aA rfl aH rfl (fun w hk hs=>Qiq w (.slice Al k cl) (gG X f) (Qqu hkm (Rd.at hO.rd hk hs Q6) fun i hi=>RdI.at (hsr i hi) hk hs Q6) (by rw[Q24];omega) (V0 (Qcs _ (Qfq X f) _) oq) (Qnr X f)) fun w v w' _ _ _ hR=>?_
   obtain⟨N1,hN1,bT⟩:=hR
   obtain⟨Eo,rfl,bT⟩:=bT
   obtain⟨Ao,co,rfl⟩:=bT.form
   refine⟨N1,hN1,?_⟩
   repeat' first|apply jN|apply jT|refine Q2 ?_|refine Q2 ?_|apply jR
   exact QQ 0 rfl rfl rfl (fun a w' st=>⟨st.kp,N1,st.aS rfl (HSub.skip QI),_,rfl,bT⟩)


def jq (m:ZM) (xs:List Int) (i k:Nat):Int:=aN k fun j=>m.at i j*xs.getD j 0
def SolP (m:ZM) (xs bs:List Int):Prop:=xs.length=m.c∧bs.length=m.r∧∀ i,i<m.r→jq m xs i m.c=bs.getD i 0

theorem Qsh (K L:Nat) (w:World) (v u z:Value) (m:ZM) (xs bs:List Int) (hm:cO m) (hv:fO w v m) (hu:WZ w u xs.length xs) (hz:WZ w z bs.length bs) (hl1:xs.length≤2000000) (hl2:bs.length≤2000000) (hK:K+L≤8000000) (hx:cZ K m) (hy:fK L xs) (hy2:fK L bs) :
  Calls Tryz.prog 41 #[v,u,z] w (aP fun v w'=>Kp [] w w'∧eX (SolP m xs bs) v):=by
 have jI:=hv.x
 have hle:=hm.le
 have hl:=hm.len
 have hr:=hm.r
 have hcm:=hm.c
 obtain⟨E,rfl,hE⟩:=hv
 rw[hl]at hE
 obtain⟨A0,c0,rfl⟩:=hE.form
 obtain⟨A1,c1,rfl⟩:=hu.form
 obtain⟨A2,c2,rfl⟩:=hz.form
 refine Q9 [⟨11,1,[],[]⟩] [] au [] Tryz.func41 rfl mixed (by kernel_rfl) Tryz.ntmps41 Tryz.results41 rfl ⟨by simp,by simp⟩ au ?_
 simp only[toS,Qd,Qt,Qk,Ql,ay,Qg,QA,aC]
 have hR:=WZ.rd (c:=⟨Tryz.prog,65,w,[],by simp⟩) hE rfl []
 have hR1:=WZ.rd (c:=⟨Tryz.prog,65,w,[],by simp⟩) hu rfl []
 have hR2:=WZ.rd (c:=⟨Tryz.prog,65,w,[],by simp⟩) hz rfl []
 repeat' first|apply jS|apply jO|apply jN|refine Q0 ?_|refine Q7 ?_|refine QB fun _=>?_|apply jT
 rename_i b3
 refine Q5 trivial rfl rfl rfl (fun w hk _=>ZY w _ m.xm (jI.mono hk) (Q08 hm)) fun w v w' _ _ _ hR=>?_
 obtain⟨b',rfl,hb⟩:=hR
 obtain rfl:=hb.2 hm.rx
 by_cases hd:xs.length=m.c∧bs.length=m.r
 ·obtain⟨hd1,hd2⟩:=hd
  repeat' first|apply jS|apply jO|apply jN|apply jT|refine Q1 ?_|refine Q3 ?_|refine Q0 ?_|refine Qb ?_|refine Zv (h:=?_)|refine QC (h:=?_)|refine QV (h:=?_)|(refine Ze (h1:=?_) (h2:=?_)<;>intro hc<;>try omega)|apply jK|refine Q4 rfl ?_|apply jB
  all_goals first
   | (exfalso;omega)
   | skip
  refine Qp (ι:=Nat) ⟨fun z=>[(8,nv z),(6,.bool false),(1,.slice A1 xs.length c1),(2,.slice A2 bs.length c2),(3,.pointer (some ⟨b3,0,none⟩))],fun z=>[(b3,.cells #[nv m.r,nv m.c,.slice A0 (m.r*m.c) c0] 26)],
   fun z=>z≤m.r∧∀ a,a<z→jq m xs a m.c=bs.getD a 0,fun z=>m.r-z⟩ 0 ⟨V9 _,fun a h=>absurd h (Nat.not_lt_zero _)⟩ aF (HSub.refl _) (fun i hi=>?_)
  obtain⟨hir,hrows⟩:=hi
  dsimp only at hir hrows ⊢
  by_cases hii:i<m.r
  ·repeat' first|apply jS|apply jO|apply jN|apply jT|refine Q1 ?_|refine Q3 ?_|refine Q0 ?_|refine Qb ?_|(refine Qs (h1:=?_) (h2:=?_)<;>intro hc<;>try omega)|refine Qc fun _=>?_|apply jK|refine Q8 rfl ?_|apply jB
   rename_i b9
   refine Qp (ι:=Nat) ⟨fun z=>[(10,nv z),(9,.pointer (some ⟨b9,0,none⟩)),(8,nv i),(6,.bool false),(1,.slice A1 xs.length c1),(2,.slice A2 bs.length c2),(3,.pointer (some ⟨b3,0,none⟩))],fun z=>[(b9,.cells #[.bool (wz (jq m xs i z)).1,sv (wz (jq m xs i z)).2] 35),(b3,.cells #[nv m.r,nv m.c,.slice A0 (m.r*m.c) c0] 26)],
    fun z=>z≤m.c,fun z=>m.c-z⟩ 0 (V9 _) aF (by simp only[jq,aN,eU];exact HSub.refl _) (fun j hj=>?_)
   dsimp only at hj ⊢
   have hS:(jq m xs i j).natAbs<256 ^ (K+L+1):=Qfo oq fun a=>X2 (hx.at i a) (hy a)
   by_cases hjj:j<m.c
   ·have hi2:=Q0z hii hjj
    have hkc:i*m.c≤40000:=Vr (show i≤200 by omega) hcm
    repeat' first|apply jS|apply jO|apply jD|apply jN|apply jT|refine Q1 ?_|refine Q3 ?_|refine Qb ?_|refine Q7 ?_|refine Zn (h:=?_)|refine XD (h:=?_)|refine Zf (h:=?_)|refine ZK (h:=?_)|(refine Qs (h1:=?_) (h2:=?_)<;>intro hc<;>try omega)|apply jK|refine Q8 rfl ?_|apply jB
    rw[show m.e.getD (i*m.c+j) 0=m.at i j from rfl]
    refine Q5 aA rfl aH rfl (fun w _ _=>Q9z w _ _ (m.at i j) (xs.getD j 0) (K+L) (Qi (Y6 (hx.at i j) oq)) (Qi (Y6 (hy j) oq)) oq) fun w v w' _ _ _ hR=>?_
    subst hR
    skip
    refine Q5 aA rfl aH rfl (fun w _ _=>Q5h w _ _ (jq m xs i j) (m.at i j*xs.getD j 0) (K+L+1) (Qi hS) (Qi (Y6 (X2 (hx.at i j) (hy j)) oq)) oq) fun w v w' _ _ _ hR=>?_
    subst hR
    rw[show jq m xs i j+m.at i j*xs.getD j 0=jq m xs i (j+1) from rfl]
    repeat' first|apply jO|apply jN|apply jT|refine Q1 ?_|refine Q0 ?_|refine Qj ?_|refine Q2 ?_|refine Q2 ?_|apply jW
    exact Qa (j+1) aY aY aF (HSub.refl _)
   ·obtain rfl:j=m.c:=by omega
    repeat' first|apply jS|apply jO|apply jD|apply jN|apply jT|refine Q1 ?_|refine Q3 ?_|refine Qb ?_|refine Q7 ?_|refine Zn (h:=?_)|refine XD (h:=?_)|(refine Qs (h1:=?_) (h2:=?_)<;>intro hc<;>try omega)|apply jU|apply jE|refine Q4 rfl ?_|apply Qe
    refine Q5 aA rfl aH rfl (fun w _ _=>Qj2 w _ _ (jq m xs i m.c) (bs.getD i 0) (K+L+1) (Qi hS) (Qi (Y6 (hy2 i) oq)) oq) fun w v w' _ _ _ hR=>?_
    subst hR
    repeat' first|apply jS|apply jO|apply jN|apply jT|refine Q1 ?_|refine Q0 ?_|refine Qj ?_|(refine Ze (h1:=?_) (h2:=?_)<;>intro hc<;>try omega)|apply jV|apply jK|apply jR|refine Q8 rfl ?_|refine Q4 rfl ?_|apply jW|apply QT
    ·exact Qn rfl (fun a w' st=>⟨st.kp,eX.f (fun h=>hc (by rw[h.2.2 i hii,Int.sub_self];rfl))⟩)
    ·have he:jq m xs i m.c=bs.getD i 0:=by have:=Int.sign_eq_zero_iff_zero.1 hc;omega
     exact Qa (i+1) ⟨by first|omega|(dsimp only;omega),fun a ha=>by
      rcases Nat.lt_or_ge a i with h|h
      ·exact hrows a h
      ·obtain rfl:a=i:=by omega
       exact he⟩ dgp aF (HSub.skip (HSub.refl _))
  ·repeat' first|apply jS|apply jO|apply jN|apply jT|refine Q1 ?_|refine Q3 ?_|refine Q0 ?_|refine Qb ?_|(refine Qs (h1:=?_) (h2:=?_)<;>intro hc<;>try omega)|apply jU|apply jE|apply jR|refine Q4 rfl ?_|apply Qe
   exact Qn rfl (fun a w' st=>⟨st.kp,eX.t ⟨hd1,hd2,fun i hi=>hrows i oq⟩⟩)
 ·repeat' first|apply jS|apply jO|apply jN|apply jT|refine Q1 ?_|refine Q3 ?_|refine Q0 ?_|refine Qb ?_|refine Zv (h:=?_)|refine QD (h:=?_)|refine QC (h:=?_)|refine QV (h:=?_)|(refine Ze (h1:=?_) (h2:=?_)<;>intro hc<;>try omega)|apply jV|refine Q8 rfl ?_|refine QU (h:=?_)|apply jR
  all_goals first
   | (exfalso;omega)
   | exact Qn rfl (fun a w' st=>⟨st.kp,eX.f (fun h=>hd ⟨h.1,h.2.1⟩)⟩)

theorem Qdq (K:Nat) (w:World) (v u:Value) (xs ys:List Int) (hv:WZ w v xs.length xs) (hu:WZ w u ys.length ys) (hn:xs.length≤2000000) (hk:ys.length≤2000000) (hK:K≤8000000) (hx:fK K xs) (hy:fK K ys) :
  Calls Tryz.prog 25 #[v,u] w (aP fun v w'=>Kp [] w w'∧eX (xs=ys) v):=by
 obtain⟨A0,c0,rfl⟩:=hv.form
 obtain⟨A1,c1,rfl⟩:=hu.form
 refine Q9 [] [] au [] Tryz.func25 rfl mixed (by kernel_rfl) Tryz.ntmps25 Tryz.results25 rfl ⟨by simp,by simp⟩ au ?_
 simp only[toS,Qd,Qt,Qk,Ql,ay,Qg,QA,aC]
 have hR:=WZ.rd (c:=⟨Tryz.prog,27,w,[],by simp⟩) hv rfl []
 have hR1:=WZ.rd (c:=⟨Tryz.prog,27,w,[],by simp⟩) hu rfl []
 by_cases hd:xs.length=ys.length
 ·repeat' first|apply jS|apply jO|apply jN|apply jT|refine Q1 ?_|refine Q0 ?_|refine Zv (h:=?_)|(refine Ze (h1:=?_) (h2:=?_)<;>intro hc<;>try omega)|apply jK|refine Q4 rfl ?_|apply jB
  all_goals first
   | (exfalso;omega)
   | skip
  refine Qp (ι:=Nat) ⟨fun i=>[(5,nv i),(0,.slice A0 xs.length c0),(1,.slice A1 ys.length c1)],fun _=>[],fun i=>i≤xs.length∧∀ j,j<i→xs.getD j 0=ys.getD j 0,fun i=>xs.length-i⟩ 0 ⟨by omega,fun j h=>by omega⟩ aF (HSub.nil _) (fun i hi=>?_)
  obtain⟨hin,hpr⟩:=hi
  dsimp only at hin hpr ⊢
  by_cases hlt:i<xs.length
  ·repeat' first|apply jS|apply jO|apply jD|apply jN|apply jT|refine Q1 ?_|refine Zn (h:=?_)|refine XD (h:=?_)|refine Zv (h:=?_)|(refine Qs (h1:=?_) (h2:=?_)<;>intro hc<;>try omega)|apply jK|refine Q8 rfl ?_|apply jB
   refine Q5 aA rfl aH rfl (fun w _ _=>Qj2 w _ _ (xs.getD i 0) (ys.getD i 0) K (Qi (hx i)) (Qi (hy i)) oq) fun w v w' _ _ _ hR=>?_
   subst hR
   repeat' first|apply jS|apply jO|apply jN|apply jT|refine Q1 ?_|refine Q0 ?_|refine Qj ?_|(refine Ze (h1:=?_) (h2:=?_)<;>intro hc<;>try omega)|apply jV|apply jK|apply jR|refine Q8 rfl ?_|refine Q4 rfl ?_|apply jW|apply QT
   ·exact Qn rfl (fun a w' st=>⟨st.kp,eX.f (fun h=>hc (by rw[h,Int.sub_self];rfl))⟩)
   ·have he:xs.getD i 0=ys.getD i 0:=by have:=Int.sign_eq_zero_iff_zero.1 hc;omega
    exact Qa (i+1) ⟨by first|omega|(dsimp only;omega),fun a ha=>by
     rcases Nat.lt_or_ge a i with h|h
     ·exact hpr a h
     ·obtain rfl:a=i:=by omega
      exact he⟩ dgp aF (HSub.nil _)
  ·repeat' first|apply jS|apply jO|apply jN|apply jT|refine Q1 ?_|refine Q0 ?_|refine Zv (h:=?_)|(refine Qs (h1:=?_) (h2:=?_)<;>intro hc<;>try omega)|apply jU|apply jE|apply jR|refine Q4 rfl ?_|apply Qe
   exact Qn rfl (fun a w' st=>⟨st.kp,eX.t (Q7w (d:=0) oq (fun j hj=>hpr j oq))⟩)
 ·repeat' first|apply jS|apply jO|apply jN|apply jT|refine Q1 ?_|refine Q0 ?_|refine Zv (h:=?_)|(refine Ze (h1:=?_) (h2:=?_)<;>intro hc<;>try omega)|apply jV|apply jR|refine Q8 rfl ?_
  all_goals first
   | (exfalso;omega)
   | exact Qn rfl (fun a w' st=>⟨st.kp,eX.f (fun h=>hd (by rw[h]))⟩)

def colS (m:ZM) (y:List Int) (j k:Nat):Int:=aN k fun i=>y.getD i 0*m.at i j
def dotS (y b:List Int) (k:Nat):Int:=aN k fun i=>y.getD i 0*b.getD i 0
def RefP (m:ZM) (b y:List Int) (d:Int):Prop:=b.length=m.r∧y.length=m.r∧0≤d∧(∀ j,j<m.c→d∣colS m y j m.r)∧¬d∣dotS y b m.r
theorem Q25 {f g:Nat→Int}:∀ {n:Nat},(∀ i,i<n→f i=g i)→aN n f=aN n g
 | 0,_=>rfl
 | n+1,h=>by rw[aN,aN,Q25 fun i hi=>h i oq,h n oq]
theorem Qbx {a:Int}:a.sign<0↔a<0:=Int.sign_neg_iff

theorem Qms (K L:Nat) (w:World) (v u z t:Value) (m:ZM) (bs ys:List Int) (d:Int) (hm:cO m) (hv:fO w v m) (hu:WZ w u bs.length bs) (hz:WZ w z ys.length ys) (ht:dR t d (K+L+1)) (hl1:bs.length≤2000000) (hl2:ys.length≤2000000) (hK:K+L≤8000000) (hx:cZ K m) (hy:fK K bs) (hy2:fK L ys) :
  Calls Tryz.prog 42 #[v,u,z,t] w (aP fun v w'=>Kp [] w w'∧eX (RefP m bs ys d) v):=by
 have hv0:=hv
 have ht0:=ht
 have jI:=hv.x
 have hle:=hm.le
 have hl:=hm.len
 have hr:=hm.r
 have hcm:=hm.c
 obtain⟨E,rfl,hE⟩:=hv
 rw[hl]at hE
 obtain⟨A0,c0,rfl⟩:=hE.form
 obtain⟨A1,c1,rfl⟩:=hu.form
 obtain⟨A2,c2,rfl⟩:=hz.form
 obtain⟨p,l,rfl,hl3,hd3⟩:=ht
 refine Q9 [⟨7,1,[],[]⟩,⟨10,1,[],[]⟩] [] au [] Tryz.func42 rfl mixed (by kernel_rfl) Tryz.ntmps42 Tryz.results42 rfl ⟨by simp,by simp⟩ au ?_
 simp only[toS,Qd,Qt,Qk,Ql,ay,Qg,QA,aC]
 have hR:=WZ.rd (c:=⟨Tryz.prog,56,w,[],by simp⟩) hE rfl []
 have hR1:=WZ.rd (c:=⟨Tryz.prog,56,w,[],by simp⟩) hu rfl []
 have hR2:=WZ.rd (c:=⟨Tryz.prog,56,w,[],by simp⟩) hz rfl []
 repeat' first|apply jS|apply jO|apply jN|refine Q0 ?_|refine Q7 ?_|refine QB fun _=>?_|apply jT
 rename_i b4 b7
 refine Q5 trivial rfl rfl rfl (fun w hk _=>ZY w _ m.xm (jI.mono hk) (Q08 hm)) fun w v w' _ _ _ hR=>?_
 obtain⟨b',rfl,hb⟩:=hR
 obtain rfl:=hb.2 hm.rx
 by_cases hd:bs.length=m.r∧ys.length=m.r
 ·obtain⟨hd1,hd2⟩:=hd
  repeat' first|apply jS|apply jO|apply jN|refine Q1 ?_|refine Q3 ?_|refine Q0 ?_|refine Qb ?_|refine Q7 ?_|refine Zv (h:=?_)|refine QC (h:=?_)|refine QV (h:=?_)|(refine Ze (h1:=?_) (h2:=?_)<;>intro hc<;>try omega)|apply jT
  all_goals first
   | (exfalso;omega)
   | skip
  refine Q5 aA rfl aH rfl (fun w _ _=>Y5 w _ d (K+L+1) ht0 oq) fun w v w' _ _ _ hR=>?_
  subst hR
  by_cases hsg:d.sign<0
  ·repeat' first|apply jS|apply jO|apply jN|apply jT|refine Q0 ?_|refine QC (h:=?_)|(refine Qs (h1:=?_) (h2:=?_)<;>intro hc<;>try omega)|apply jV|apply jR|refine Q8 rfl ?_
   all_goals first
    | (exfalso;omega)
    | skip
   exact Qn rfl (fun a w' st=>⟨st.kp,eX.f (fun h=>by have:=Qbx.1 hsg;have:=h.2.2.1;omega)⟩)
  ·have hd0:0≤d:=by
    rcases Int.lt_or_le d 0 with h|h
    ·exact absurd (Qbx.2 h) hsg
    ·exact h
   repeat' first|apply jS|apply jO|apply jN|apply jT|refine Q0 ?_|refine QC (h:=?_)|(refine Qs (h1:=?_) (h2:=?_)<;>intro hc<;>try omega)|apply jK|refine Q4 rfl ?_|apply jB
   all_goals first
    | (exfalso;omega)
    | skip
   refine Qp (ι:=Nat) ⟨fun z=>[(10,nv z),(8,.bool false),(1,.slice A1 bs.length c1),(2,.slice A2 ys.length c2),(4,.pointer (some ⟨b4,0,none⟩)),(7,.pointer (some ⟨b7,0,none⟩))],fun z=>[(b7,.cells #[.bool p,sv l] 35),(b4,.cells #[nv m.r,nv m.c,.slice A0 (m.r*m.c) c0] 26)],
    fun z=>z≤m.c∧∀ a,a<z→d∣colS m ys a m.r,fun z=>m.c-z⟩ 0 ⟨V9 _,fun a h=>absurd h (Nat.not_lt_zero _)⟩ aF (HSub.refl _) (fun i hi=>?_)
   obtain⟨hir,hrows⟩:=hi
   dsimp only at hir hrows ⊢
   by_cases hii:i<m.c
   ·repeat' first|apply jS|apply jO|apply jD|apply jN|apply jT|refine Q1 ?_|refine Q3 ?_|refine Qb ?_|refine Q7 ?_|(refine Qs (h1:=?_) (h2:=?_)<;>intro hc<;>try omega)|apply jK|refine Q8 rfl ?_|apply jB
    refine Qf (A:=[_,_]) (B:=[]) rfl aA rfl aH rfl (fun w hk hs=>Qso w _ m i hm hii (hv0.mono hk)) fun w v w' _ _ _ hR=>?_
    obtain⟨N1,hN1,bT⟩:=hR
    obtain⟨A3,c3,rfl⟩:=bT.form
    refine⟨N1,hN1,?_⟩
    have hbc:fK K (tab m.r fun a=>m.at a i):=fun a=>by
     by_cases ha:a<m.r
     ·rw[Zq ha];exact hx.at a i
     ·rw[List.getD,List.getElem?_eq_none (by rw[W6];omega)];exact bG K
    skip
    refine Q5 aA rfl aH rfl (fun w hk hs=>Qmw L K w _ _ m.r ys (tab m.r fun a=>m.at a i) (by rw[← hd2];exact hz.mono hk) (bT.rd.at hk hs Q6) hr oq hy2 hbc) fun w v w' _ _ _ hR=>?_
    have hcs:(aN m.r fun a=>ys.getD a 0*(tab m.r fun a=>m.at a i).getD a 0)=colS m ys i m.r:=Q25 fun a ha=>by rw[Zq ha]
    rw[hcs]at hR
    subst hR
    have hSb:(colS m ys i m.r).natAbs<256 ^ (K+L+1):=Qfo hr fun a=>by rw[Nat.add_comm K L];exact X2 (hy2 a) (hx.at a i)
    skip
    refine Q5 aA rfl aH rfl (fun w _ _=>Qmr w _ _ d (colS m ys i m.r) (K+L+1) ht0 (Qi hSb) oq) fun w v w' _ _ _ hR=>?_
    subst hR
    by_cases hdv:d∣colS m ys i m.r
    ·rw[decide_eq_true hdv]
     repeat' first|apply jS|apply jO|apply jN|apply jT|refine Q1 ?_|refine Q0 ?_|refine Qj ?_|refine QV (h:=?_)|apply jK|refine Q4 rfl ?_|apply jW
     exact Qa (i+1) ⟨by first|omega|(dsimp only;omega),fun a ha=>by
      rcases Nat.lt_or_ge a i with h|h
      ·exact hrows a h
      ·obtain rfl:a=i:=by omega
       exact hdv⟩ dgp aF (by exact HSub.at 0 rfl (HSub.at 0 rfl (HSub.nil _)))
    ·rw[decide_eq_false hdv]
     repeat' first|apply jS|apply jO|apply jN|apply jT|refine Q1 ?_|refine Q0 ?_|refine QV (h:=?_)|apply jV|apply jR|refine Q8 rfl ?_|apply QT
     exact Qn rfl (fun a w' st=>⟨st.kp,eX.f (fun h=>hdv (h.2.2.2.1 i hii))⟩)
   ·repeat' first|apply jS|apply jO|apply jD|apply jN|apply jT|refine Q1 ?_|refine Q3 ?_|refine Qb ?_|refine Q7 ?_|(refine Qs (h1:=?_) (h2:=?_)<;>intro hc<;>try omega)|apply jU|apply jE|refine Q4 rfl ?_|apply Qe
    refine Q5 aA rfl aH rfl (fun w hk hs=>Qmw L K w _ _ m.r ys bs (by rw[← hd2];exact hz.mono hk) (by rw[← hd1];exact hu.mono hk) hr oq hy2 hy) fun w v w' _ _ _ hR=>?_
    rw[show (aN m.r fun a=>ys.getD a 0*bs.getD a 0)=dotS ys bs m.r from rfl]at hR
    subst hR
    have hSb:(dotS ys bs m.r).natAbs<256 ^ (K+L+1):=Qfo hr fun a=>by rw[Nat.add_comm K L];exact X2 (hy2 a) (hy a)
    skip
    refine Q5 aA rfl aH rfl (fun w _ _=>Qmr w _ _ d (dotS ys bs m.r) (K+L+1) ht0 (Qi hSb) oq) fun w v w' _ _ _ hR=>?_
    subst hR
    by_cases hdv:d∣dotS ys bs m.r
    ·rw[decide_eq_true hdv]
     repeat' first|apply jN|apply jT|refine Q0 ?_|refine QV (h:=?_)|apply jR
     exact Qn rfl (fun a w' st=>⟨st.kp,eX.f (fun h=>h.2.2.2.2 hdv)⟩)
    ·rw[decide_eq_false hdv]
     repeat' first|apply jN|apply jT|refine Q0 ?_|refine QV (h:=?_)|apply jR
     exact Qn rfl (fun a w' st=>⟨st.kp,eX.t ⟨hd1,hd2,hd0,fun j hj=>hrows j oq,hdv⟩⟩)
 ·repeat' first|apply jS|apply jO|apply jN|apply jT|refine Q1 ?_|refine Q3 ?_|refine Q0 ?_|refine Qb ?_|refine Zv (h:=?_)|refine QD (h:=?_)|refine QC (h:=?_)|refine QV (h:=?_)|(refine Ze (h1:=?_) (h2:=?_)<;>intro hc<;>try omega)|apply jV|refine Q8 rfl ?_|refine QU (h:=?_)|apply jR
  all_goals first
   | (exfalso;omega)
   | exact Qn rfl (fun a w' st=>⟨st.kp,eX.f (fun h=>hd ⟨h.1,h.2.1⟩)⟩)

end Go.Proofs.YtljmapfihjkafaaGreatDoor

