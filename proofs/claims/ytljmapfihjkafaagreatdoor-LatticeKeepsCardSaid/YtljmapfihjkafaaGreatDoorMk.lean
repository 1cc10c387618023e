import Derived.Test.YtljmapfihjkafaaGreatDoorMj
set_option maxHeartbeats 16000000
namespace Go.Proofs.YtljmapfihjkafaaGreatDoor
open Go Go.RowKit
set_option linter.unusedSimpArgs false
set_option linter.unusedVariables false
set_option linter.unusedSectionVars false

theorem Qdy {x y:Nat × Obj} {M1 M2 M3 M4 M5 R:SHeap}:HSub (M1++(M2++(M3++(M4++M5)))) (x::y::(M5++(M4++(M3++(M2++(M1++R)))))):=by
 refine HSub.skip (HSub.skip ⟨R,?_⟩)
 classical
 rw[List.perm_iff_count]
 intro x
 simp only[List.count_append]
 omega
theorem Q27 {K t m n f:Nat} {S S':Sm} (h:stageR K t m n (f+1) S=some S') (hl:(leastF S t m n).2.2=false):S'=S:=by
 rw[stageR,if_pos hl]at h
 exact(Option.some.inj h).symm

theorem Qmf (K f:Nat) (w:World) (v:Value) (a:ZM) (S':Sm) (ha:RtZ a) (hv:IsM w v a) (hK:K+1≤220000000000) (hb:BdZ (K+1) a)
  (hf:formR (K+1) f a.r a.c (min a.r a.c) 0 (startS a.r a.c (rowsOf a))=some S') :
  Calls Tryz.prog 52 #[v] w (Ret fun v w'=>Kp [] w w'∧GivesS a.r a.c S' w v w'):=by
 have hv0:=hv
 obtain⟨E,rfl,hE⟩:=hv
 have hle:=ha.le
 have hr:=ha.r
 have hac:=ha.c
 refine Q9 [⟨6,1,[0,2,4,6,8,1,3,5,7,9,10,11,12],[]⟩,⟨21,1,[0,1,2,3,4,5,7,8,9,10,11,12,14,15,16,17,18,19,21,22,23,24,25,26,28,29,30,31,32,33,6,13,20,27,34,35,36],[]⟩] [] spq [] Tryz.func52 rfl mixed (by kernel_rfl) Tryz.ntmps52 Tryz.results52 rfl ⟨by simp,by simp⟩ spq ?_
 simp only[toS,textOps,toSOp,kindAt,kindOf,odAt,sopsAt,ordOf,zipF]
 repeat' first|apply jS|apply jO|apply jN|refine Q7 ?_|refine Qc fun _=>?_|refine Qt fun _=>?_|apply jT
 rename_i b1 b2
 refine Q6 pqq rfl eqq rfl (fun w hk hs=>Zs w _ a.xm (hv0.mono hk).x (by show (a.e.map wz).length<_;rw[List.length_map];omega)) fun w v w' _ _ _ hR=>?_
 obtain⟨t,rfl,ht⟩:=hR
 obtain rfl:t=true:=ht.2 ha.rx
 repeat' first|apply jS|apply jO|apply jN|apply jT|refine Q1 ?_|refine Q3 ?_|refine Q0 ?_|refine Qb ?_|refine QP (h:=?_)|apply jK|refine Q4 rfl ?_
 refine Qd (A:=[_,_]) (B:=[]) rfl pqq rfl eqq rfl (fun w hk hs=>Q1o a.r hr w) fun w v w' _ _ _ hR=>?_
 obtain⟨Nm,hNm,Em,rfl,hOm⟩:=hR
 obtain⟨Am,cm,rfl⟩:=hOm.form
 refine⟨Nm,hNm,?_⟩
 repeat' first|refine Q2 ?_|refine Qc fun _=>?_|refine Q2 ?_|apply jN
 rename_i b4
 refine Qs ?_
 repeat' first|apply jS|refine Q3 ?_|refine Qb ?_|apply jO
 refine Qd (A:=[_,_,_]) (B:=Nm++[]) rfl pqq rfl eqq rfl (fun w hk hs=>Q1o a.c hac w) fun w v w' _ _ _ hR=>?_
 obtain⟨Nn,hNn,En,rfl,hOn⟩:=hR
 obtain⟨An,cn,rfl⟩:=hOn.form
 refine⟨Nn,hNn,?_⟩
 repeat' first|refine Q2 ?_|refine Qc fun _=>?_|refine Q2 ?_|apply jN
 rename_i b5
 refine JX.part (F':=[(5,.pointer (some ⟨b5,0,none⟩)),(4,.pointer (some ⟨b4,0,none⟩)),(2,.pointer (some ⟨b2,0,none⟩)),(1,.pointer (some ⟨b1,0,none⟩))]) (H':=[(b5,.cells #[nv a.c,nv a.c,.slice An (oneZ a.c).e.length cn] 26),(b4,.cells #[nv a.r,nv a.r,.slice Am (oneZ a.r).e.length cm] 26),(b2,.cells (smC0) 74),(b1,.cells #[nv a.r,nv a.c,E] 26)]++(Nn++(Nm++[]))) cqq Qz ?_
 refine Qs ?_
 repeat' first|apply jS|refine Q7 ?_|apply jD
 refine Qd (A:=[_,_,_,_]) (B:=Nn++(Nm++([]))) rfl pqq rfl eqq rfl (fun w hk hs=>Q38 w _ (oneZ a.r) (YN hr hr) ⟨_,rfl,hOm.rd.at hk hs Q5⟩) fun w v w' _ _ _ hR=>?_
 obtain⟨Nu,tu,hNu,hTu,hLu⟩:=hR
 obtain⟨Au,cu,rfl⟩:=hTu.form
 refine⟨Nu++tH tu,hNu,?_⟩
 skip
 refine Qd (A:=[_,_,_,_]) (B:=(Nu++tH tu)++(Nn++(Nm++([])))) rfl pqq rfl eqq rfl (fun w hk hs=>Q38 w _ (oneZ a.r) (YN hr hr) ⟨_,rfl,hOm.rd.at hk hs Q5⟩) fun w v w' _ _ _ hR=>?_
 obtain⟨Ni,ti,hNi,hTi,hLi⟩:=hR
 obtain⟨Ai,ci,rfl⟩:=hTi.form
 refine⟨Ni++tH ti,hNi,?_⟩
 skip
 refine Qd (A:=[_,_,_,_]) (B:=(Ni++tH ti)++((Nu++tH tu)++(Nn++(Nm++([]))))) rfl pqq rfl eqq rfl (fun w hk hs=>Q38 w _ a ha (hv0.mono hk)) fun w v w' _ _ _ hR=>?_
 obtain⟨Nd,td,hNd,hTd,hLd⟩:=hR
 obtain⟨Ad,cd,rfl⟩:=hTd.form
 refine⟨Nd++tH td,hNd,?_⟩
 skip
 refine Qd (A:=[_,_,_,_]) (B:=(Nd++tH td)++((Ni++tH ti)++((Nu++tH tu)++(Nn++(Nm++([])))))) rfl pqq rfl eqq rfl (fun w hk hs=>Q38 w _ (oneZ a.c) (YN hac hac) ⟨_,rfl,hOn.rd.at hk hs Q5⟩) fun w v w' _ _ _ hR=>?_
 obtain⟨Nx,tx,hNx,hTx,hLx⟩:=hR
 obtain⟨Ax,cx,rfl⟩:=hTx.form
 refine⟨Nx++tH tx,hNx,?_⟩
 skip
 refine Qd (A:=[_,_,_,_]) (B:=(Nx++tH tx)++((Nd++tH td)++((Ni++tH ti)++((Nu++tH tu)++(Nn++(Nm++([]))))))) rfl pqq rfl eqq rfl (fun w hk hs=>Q38 w _ (oneZ a.c) (YN hac hac) ⟨_,rfl,hOn.rd.at hk hs Q5⟩) fun w v w' _ _ _ hR=>?_
 obtain⟨Nj,tj,hNj,hTj,hLj⟩:=hR
 obtain⟨Aj,cj,rfl⟩:=hTj.form
 refine⟨Nj++tH tj,hNj,?_⟩
 skip
 refine Zh (l:=[(0,.slice Au tu.length cu),(1,.slice Ai ti.length ci),(2,.slice Ad td.length cd),(3,.slice Ax tx.length cx),(4,.slice Aj tj.length cj)]) (cs:=#[.slice Au tu.length cu,.slice Ai ti.length ci,.slice Ad td.length cd,.slice Ax tx.length cx,.slice Aj tj.length cj]) rfl rfl rfl rfl ?_
 repeat' first|refine Q0 ?_|refine Qt fun _=>?_|apply jN
 rename_i b36
 obtain⟨W,hWd⟩:∃ W:WV,W=⟨.slice Au tu.length cu,.slice Ai ti.length ci,.slice Ad td.length cd,.slice Ax tx.length cx,.slice Aj tj.length cj,Nu,Ni,Nd,Nx,Nj⟩:=⟨_,rfl⟩
 obtain⟨T,hTd'⟩:∃ T:WT,T=⟨tu,ti,td,tx,tj⟩:=⟨_,rfl⟩
 have hW:IsWk W a.r a.c T (startS a.r a.c (rowsOf a)):=by
  subst hWd hTd'
  have hln:∀ {n:Nat} {g:Nat→List Int} {ts:List TR},ts.map (·.2.2)=(List.range n).map g→ts.length=n:=fun h=>by simpa using congrArg List.length h
  exact⟨⟨hTu,hln hLu,hLu.trans (ZX hr)⟩,⟨hTi,hln hLi,hLi.trans (ZX hr)⟩,⟨hTd,hln hLd,hLd⟩,⟨hTx,hln hLx,hLx.trans (ZX hac)⟩,⟨hTj,hln hLj,hLj.trans (ZX hac)⟩⟩
 refine JX.part (F':=[(6,.pointer (some ⟨b36,0,none⟩)),(2,.pointer (some ⟨b2,0,none⟩)),(1,.pointer (some ⟨b1,0,none⟩))]) (H':=[(b2,.cells smC0 74),(b1,.cells #[nv a.r,nv a.c,E] 26)]++(wrH b36 W T++[])) cqq ?_ ?_
 ·subst hWd hTd'
  exact⟨_,Q3y (a:=[_]) (b4:=[_]) (b3:=[_]) (b2:=[_]) (b1:=[_])⟩
 have hb0:=Yd ha hb
 clear hTu hTi hTd hTx hTj hLu hLi hLd hLx hLj hOm hOn hWd hTd' hNu hNi hNd hNx hNj
 refine Qs ?_
 repeat' first|apply jS|apply jO|apply jN|refine Q0 ?_|apply jT
 refine Qjv (ι:=WT) (fun _=>[(6,.pointer (some ⟨b36,0,none⟩)),(2,.pointer (some ⟨b2,0,none⟩)),(1,.pointer (some ⟨b1,0,none⟩))]) (fun T=>[(b2,.cells smC0 74),(b1,.cells #[nv a.r,nv a.c,E] 26)]++((b36,.cells W.cellsR 125)::(W.Nu++(tH T.u++(W.Nui++(tH T.ui++(W.Nd++(tH T.d++(W.Nv++(tH T.v++(W.Nvi++(tH T.vi++[])))))))))))) (fun T=>IsWk W a.r a.c T S') (fun T hW=>?_) (fun rest=>?_)
 ·clear hf hb0
  refine Qs ?_
  repeat' first|apply jS|refine Q1 ?_|refine Q3 ?_|refine Qb ?_|refine Qp (h:=?_)|apply jD
  refine Qd (A:=[_,_]) (B:=((b36,.cells W.cellsR 125)::(W.Nu++(tH T.u++(W.Nui++(tH T.ui++(W.Nd++(tH T.d++(W.Nv++(tH T.v++(W.Nvi++(tH T.vi++[])))))))))))) rfl pqq rfl eqq rfl (fun w hk hs=>Q7f w _ a.r a.r S'.u (hW.u.g hk hs Q5 Q5) hW.u.rc hr hr) fun w v w' _ _ _ hR=>?_
  obtain⟨M1,hM1,E1,rfl,hO1⟩:=hR
  obtain⟨A1,c1,rfl⟩:=hO1.form
  refine⟨M1,hM1,?_⟩
  skip
  refine Qd (A:=[_,_]) (B:=M1++(((b36,.cells W.cellsR 125)::(W.Nu++(tH T.u++(W.Nui++(tH T.ui++(W.Nd++(tH T.d++(W.Nv++(tH T.v++(W.Nvi++(tH T.vi++[]))))))))))))) rfl pqq rfl eqq rfl (fun w hk hs=>Q7f w _ a.r a.r S'.ui (hW.ui.g hk hs Q5 Q5) hW.ui.rc hr hr) fun w v w' _ _ _ hR=>?_
  obtain⟨M2,hM2,E2,rfl,hO2⟩:=hR
  obtain⟨A2,c2,rfl⟩:=hO2.form
  refine⟨M2,hM2,?_⟩
  skip
  refine Qd (A:=[_,_]) (B:=M2++(M1++(((b36,.cells W.cellsR 125)::(W.Nu++(tH T.u++(W.Nui++(tH T.ui++(W.Nd++(tH T.d++(W.Nv++(tH T.v++(W.Nvi++(tH T.vi++[])))))))))))))) rfl pqq rfl eqq rfl (fun w hk hs=>Q7f w _ a.r a.c S'.d (hW.d.g hk hs Q5 Q5) hW.d.rc hr hac) fun w v w' _ _ _ hR=>?_
  obtain⟨M3,hM3,E3,rfl,hO3⟩:=hR
  obtain⟨A3,c3,rfl⟩:=hO3.form
  refine⟨M3,hM3,?_⟩
  skip
  refine Qd (A:=[_,_]) (B:=M3++(M2++(M1++(((b36,.cells W.cellsR 125)::(W.Nu++(tH T.u++(W.Nui++(tH T.ui++(W.Nd++(tH T.d++(W.Nv++(tH T.v++(W.Nvi++(tH T.vi++[]))))))))))))))) rfl pqq rfl eqq rfl (fun w hk hs=>Q7f w _ a.c a.c S'.v (hW.v.g hk hs Q5 Q5) hW.v.rc hac hac) fun w v w' _ _ _ hR=>?_
  obtain⟨M4,hM4,E4,rfl,hO4⟩:=hR
  obtain⟨A4,c4,rfl⟩:=hO4.form
  refine⟨M4,hM4,?_⟩
  skip
  refine Qd (A:=[_,_]) (B:=M4++(M3++(M2++(M1++(((b36,.cells W.cellsR 125)::(W.Nu++(tH T.u++(W.Nui++(tH T.ui++(W.Nd++(tH T.d++(W.Nv++(tH T.v++(W.Nvi++(tH T.vi++[])))))))))))))))) rfl pqq rfl eqq rfl (fun w hk hs=>Q7f w _ a.c a.c S'.vi (hW.vi.g hk hs Q5 Q5) hW.vi.rc hac hac) fun w v w' _ _ _ hR=>?_
  obtain⟨M5,hM5,E5,rfl,hO5⟩:=hR
  obtain⟨A5,c5,rfl⟩:=hO5.form
  refine⟨M5,hM5,?_⟩
  skip
  refine Zh (l:=[(0,.agg #[nv a.r,nv a.r,.slice A1 (gM a.r a.r S'.u).e.length c1]),(1,.agg #[nv a.r,nv a.r,.slice A2 (gM a.r a.r S'.ui).e.length c2]),(2,.agg #[nv a.r,nv a.c,.slice A3 (gM a.r a.c S'.d).e.length c3]),(3,.agg #[nv a.c,nv a.c,.slice A4 (gM a.c a.c S'.v).e.length c4]),(4,.agg #[nv a.c,nv a.c,.slice A5 (gM a.c a.c S'.vi).e.length c5])]) (cs:=smC a.r a.c (.slice A1 (gM a.r a.r S'.u).e.length c1) (.slice A2 (gM a.r a.r S'.ui).e.length c2) (.slice A3 (gM a.r a.c S'.d).e.length c3) (.slice A4 (gM a.c a.c S'.v).e.length c4) (.slice A5 (gM a.c a.c S'.vi).e.length c5)) rfl rfl rfl (by kernel_rfl) ?_
  repeat' first|apply jN|apply jT|refine Q2 ?_|refine Q2 ?_|apply jR
  exact QG 0 rfl rfl rfl (fun a w' st=>⟨st.kp,M1,M2,M3,M4,M5,_,_,_,_,_,rfl,⟨hW.u.rc,hW.ui.rc,hW.d.rc,hW.v.rc,hW.vi.rc⟩,st.newOf rfl (by exact Qdy),We hW.u.rc hO1,We hW.ui.rc hO2,We hW.d.rc hO3,We hW.v.rc hO4,We hW.vi.rc hO5⟩)
 refine JC.block ?_
 refine Qi (ι:=Nat × Sm × WT) ⟨fun z=>[(7,nv z.1),(6,.pointer (some ⟨b36,0,none⟩)),(2,.pointer (some ⟨b2,0,none⟩)),(1,.pointer (some ⟨b1,0,none⟩))],fun z=>[(b2,.cells smC0 74),(b1,.cells #[nv a.r,nv a.c,E] 26)]++((b36,.cells W.cellsR 125)::(W.Nu++(tH z.2.2.u++(W.Nui++(tH z.2.2.ui++(W.Nd++(tH z.2.2.d++(W.Nv++(tH z.2.2.v++(W.Nvi++(tH z.2.2.vi++[]))))))))))),fun z=>z.1≤min a.r a.c∧IsWk W a.r a.c z.2.2 z.2.1∧Ok (K+1) z.2.1∧formR (K+1) f a.r a.c (min a.r a.c-z.1) z.1 z.2.1=some S',fun z=>min a.r a.c-z.1⟩ (0,startS a.r a.c (rowsOf a),T) ⟨Nat.zero_le _,hW,hb0,by rw[Nat.sub_zero];exact hf⟩ cqq (by simp only[wrH,List.cons_append,List.nil_append,List.append_assoc,List.append_nil];exact HSub.refl _) (fun z hz=>?_)
 clear hW hb0 hf
 obtain⟨t,S,T⟩:=z
 obtain⟨htl,hW,hb0,hf⟩:=hz
 dsimp only at htl hW hb0 hf ⊢
 by_cases htk:t<min a.r a.c
 ·have htm:t<a.r:=by omega
  have htn:t<a.c:=by omega
  obtain⟨S2,hst,hrest⟩:=Q48 (show formR (K+1) f a.r a.c (min a.r a.c-(t+1)+1) t S=some S' by rw[show min a.r a.c-(t+1)+1=min a.r a.c-t by omega];exact hf)
  clear hf
  repeat' first|apply jS|apply jO|apply jN|apply jT|refine Q1 ?_|refine Q3 ?_|refine Qb ?_|refine Ql ?_|(refine Qk (h1:=?_) (h2:=?_)<;>intro hc<;>try (exfalso;omega))|apply jK|refine Q8 rfl ?_|apply jB
  refine Qi (ι:=Nat × Sm × WT) ⟨fun z=>[(7,nv t),(6,.pointer (some ⟨b36,0,none⟩)),(2,.pointer (some ⟨b2,0,none⟩)),(1,.pointer (some ⟨b1,0,none⟩))],fun z=>[(b2,.cells smC0 74),(b1,.cells #[nv a.r,nv a.c,E] 26)]++((b36,.cells W.cellsR 125)::(W.Nu++(tH z.2.2.u++(W.Nui++(tH z.2.2.ui++(W.Nd++(tH z.2.2.d++(W.Nv++(tH z.2.2.v++(W.Nvi++(tH z.2.2.vi++[]))))))))))),fun z=>IsWk W a.r a.c z.2.2 z.2.1∧Ok (K+1) z.2.1∧stageR (K+1) t a.r a.c z.1 z.2.1=some S2,fun z=>z.1⟩ (f,S,T) ⟨hW,hb0,hst⟩ cqq (HSub.refl _) (fun z hz=>?_)
  clear hW hb0 hst
  obtain⟨g,S1,T1⟩:=z
  obtain⟨hW1,hb1,hst⟩:=hz
  dsimp only at hW1 hb1 hst ⊢
  cases g with
  | zero=>cases hst
  | succ g =>
  repeat' first|apply jS|apply jO|refine Q1 ?_|apply jB
  refine QQ (A:=[(b2,.cells smC0 74),(b1,.cells #[nv a.r,nv a.c,E] 26)]) (N:=wrH b36 W T1) (B:=[]) (R:=fun w v w'=>RkR b36 W a.r a.c T1 S1 w w'∧v=.tuple #[nv (leastF S1 t a.r a.c).1,nv (leastF S1 t a.r a.c).2.1,.bool (leastF S1 t a.r a.c).2.2]) (by simp only[wrH,List.cons_append,List.nil_append,List.append_assoc,List.append_nil]) pqq rfl eqq rfl (fun w _ hs=>?_) (fun w1 v1 w2 _ _ hk2 hR=>?_)
  ·have hs1:Hsat (wrH b36 W T1) w:=HSub.hsat (by exact HSub.skip (HSub.skip (by first|exact HSub.refl _|exact Qv|simpa [wrH] using HSub.refl _))) hs
   exact QC (Qmk (K+1) w b36 W a.r a.c T1 S1 t hW1 hs1 htm htn hr hac hK hb1) fun v w' h=>⟨h.1.1,h⟩
  obtain⟨⟨_,T2,hk3,hin3,hW2,_⟩,rfl⟩:=hR
  refine⟨wrH b36 W T2,hk3,hin3,?_⟩
  clear hk3 hin3 hk2
  clear hW1
  by_cases hfl:(leastF S1 t a.r a.c).2.2=true
  ·obtain⟨Sa,Sb,r,h1,h2,h3,h4,h5⟩:=Q25 hst hfl
   obtain⟨hi,hj⟩:=Qee hfl
   rw[hfl]
   generalize (leastF S1 t a.r a.c).1=i at *
   generalize (leastF S1 t a.r a.c).2.1=j at *
   have hba:=Qiz h1 hb1
   have hbb:=Qj0 h2 hba
   have hbr:=Q4d h3 hbb
   clear hst hfl
   repeat' first|apply jS|apply jO|apply jN|apply jT|refine Q1 ?_|refine Q0 ?_|refine QP (h:=?_)|refine Qn (h:=?_)|apply jK|refine Q4 rfl ?_
   refine QQ (A:=[(b2,.cells smC0 74),(b1,.cells #[nv a.r,nv a.c,E] 26)]) (N:=wrH b36 W T2) (B:=[]) (R:=fun w v w'=>RkR b36 W a.r a.c T2 Sa w w') (by simp only[wrH,List.cons_append,List.nil_append,List.append_assoc,List.append_nil]) pqq rfl eqq rfl (fun w _ hs=>?_) (fun w1 v1 w2 _ _ hk2 hR=>?_)
   ·have hs1:Hsat (wrH b36 W T2) w:=HSub.hsat (by exact HSub.skip (HSub.skip (by first|exact HSub.refl _|exact Qv|simpa [wrH] using HSub.refl _))) hs
    exact QC (Qmb K w b36 W a.r a.c T2 S1 Sa t i hW2 hs1 htm hi hr hac hK hb1 h1) fun v w' h=>⟨h.1,h⟩
   obtain⟨_,T3,hk3,hin3,hW3,_⟩:=hR
   refine⟨wrH b36 W T3,hk3,hin3,?_⟩
   clear hk3 hin3 hk2
   repeat' first|apply jS|apply jO|apply jN|refine Q1 ?_|apply jT
   refine QQ (A:=[(b2,.cells smC0 74),(b1,.cells #[nv a.r,nv a.c,E] 26)]) (N:=wrH b36 W T3) (B:=[]) (R:=fun w v w'=>RkR b36 W a.r a.c T3 Sb w w') (by simp only[wrH,List.cons_append,List.nil_append,List.append_assoc,List.append_nil]) pqq rfl eqq rfl (fun w _ hs=>?_) (fun w1 v1 w2 _ _ hk2 hR=>?_)
   ·have hs1:Hsat (wrH b36 W T3) w:=HSub.hsat (by exact HSub.skip (HSub.skip (by first|exact HSub.refl _|exact Qv|simpa [wrH] using HSub.refl _))) hs
    exact QC (Qmc K w b36 W a.r a.c T3 Sa Sb t j hW3 hs1 htn hj hr hac hK hba h2) fun v w' h=>⟨h.1,h⟩
   obtain⟨_,T4,hk3,hin3,hW4,_⟩:=hR
   refine⟨wrH b36 W T4,hk3,hin3,?_⟩
   clear hk3 hin3 hk2
   repeat' first|apply jS|apply jO|apply jN|refine Q1 ?_|apply jT
   refine QQ (A:=[(b2,.cells smC0 74),(b1,.cells #[nv a.r,nv a.c,E] 26)]) (N:=wrH b36 W T4) (B:=[]) (R:=fun w v w'=>RkR b36 W a.r a.c T4 r.1 w w'∧v=.bool r.2) (by simp only[wrH,List.cons_append,List.nil_append,List.append_assoc,List.append_nil]) pqq rfl eqq rfl (fun w _ hs=>?_) (fun w1 v1 w2 _ _ hk2 hR=>?_)
   ·have hs1:Hsat (wrH b36 W T4) w:=HSub.hsat (by exact HSub.skip (HSub.skip (by first|exact HSub.refl _|exact Qv|simpa [wrH] using HSub.refl _))) hs
    exact QC (Qie (K+1) w b36 W a.r a.c T4 Sb r t hW4 hs1 htm htn hr hac hK hbb h3) fun v w' h=>⟨h.1.1,h⟩
   obtain⟨⟨_,T5,hk3,hin3,hW5,_⟩,rfl⟩:=hR
   refine⟨wrH b36 W T5,hk3,hin3,?_⟩
   clear hk3 hin3 hk2
   clear hW2 hW3 hW4 h1 h2 h3 hba hbb hb1
   obtain⟨Sr,dn⟩:=r
   dsimp only at h4 h5 hbr hW5 ⊢
   cases dn with
   | false =>
    repeat' first|apply jS|apply jO|apply jN|apply jT|refine Q1 ?_|refine Q0 ?_|refine QP (h:=?_)|apply jU|apply jE|refine Q8 rfl ?_|refine Qe ?_
    exact Qa (g,Sr,T5) ⟨hW5,hbr,h4 rfl⟩ dgq cqq (by simpa [wrH] using HSub.refl _)
   | true =>
    have h5:=h5 rfl
    clear h4
    repeat' first|apply jS|apply jO|apply jN|apply jT|refine Q1 ?_|refine Q0 ?_|refine QP (h:=?_)|apply jK|refine Q4 rfl ?_
    refine QQ (A:=[(b2,.cells smC0 74),(b1,.cells #[nv a.r,nv a.c,E] 26)]) (N:=wrH b36 W T5) (B:=[]) (R:=fun w v w'=>RkR b36 W a.r a.c T5 Sr w w'∧v=spV (spoiledF Sr t a.r a.c)) (by simp only[wrH,List.cons_append,List.nil_append,List.append_assoc,List.append_nil]) pqq rfl eqq rfl (fun w _ hs=>?_) (fun w1 v1 w2 _ _ hk2 hR=>?_)
    ·have hs1:Hsat (wrH b36 W T5) w:=HSub.hsat (by exact HSub.skip (HSub.skip (by first|exact HSub.refl _|exact Qv|simpa [wrH] using HSub.refl _))) hs
     exact QC (Qic (K+1) w b36 W a.r a.c T5 Sr t hW5 hs1 htm htn hr hac hK hbr) fun v w' h=>⟨h.1.1,h⟩
    obtain⟨⟨_,T6,hk3,hin3,hW6,_⟩,rfl⟩:=hR
    refine⟨wrH b36 W T6,hk3,hin3,?_⟩
    clear hk3 hin3 hk2
    clear hW5
    rcases h5 with ⟨hn,rfl⟩|⟨k,S4,hk,hop,hst⟩
    ·rw[hn]
     clear hn
     have hld:=hW6.d.len
     have hT6:=hW6.d.T
     have hVr:∀ a,tv T6.d a=tv T6.d a:=fun _=>rfl
     have hx:(tM T6.d t t).natAbs<256 ^ (K+1):=WH hW6.d hbr.d t t
     simp only[wrH,List.cons_append,List.nil_append,List.append_assoc,List.append_nil]
     repeat' first|apply jS|apply jO|apply jN|apply jT|refine Q1 ?_|refine Q3 ?_|refine Q0 ?_|refine Qb ?_|refine QK (h:=?_)|refine Z2 (h:=?_)|refine ZB (h:=?_)|refine ZL (h:=?_)|refine QP (h:=?_)|refine Qp (h:=?_)|refine Qn (h:=?_)|refine Q8 rfl ?_
     refine Q6 pqq rfl eqq rfl (fun w _ _=>ZE w _ (tM T6.d t t) (K+1) (Qf hx) oq) fun w v w' _ _ _ hR=>?_
     subst hR
     rw[show tM T6.d t t=gE Sr.d t t from hW6.d.at t t]
     by_cases hneg:gE Sr.d t t<0
     ·rw[if_pos hneg]at hrest
      have hsg:(gE Sr.d t t).sign<0:=Int.sign_neg_iff.2 hneg
      repeat' first|apply jO|apply jN|apply jT|refine Q1 ?_|(refine Qk (h1:=?_) (h2:=?_)<;>intro hc<;>try (exfalso;omega))|refine Q8 rfl ?_
      refine QQ (A:=[(b2,.cells smC0 74),(b1,.cells #[nv a.r,nv a.c,E] 26)]) (N:=wrH b36 W T6) (B:=[]) (R:=fun w v w'=>RkR b36 W a.r a.c T6 (Sr.neg t) w w') (by simp only[wrH,List.cons_append,List.nil_append,List.append_assoc,List.append_nil]) pqq rfl eqq rfl (fun w _ hs=>?_) (fun w1 v1 w2 _ _ hk2 hR=>?_)
      ·have hs1:Hsat (wrH b36 W T6) w:=HSub.hsat (by exact HSub.skip (HSub.skip (by first|exact HSub.refl _|exact Qv|simpa [wrH] using HSub.refl _))) hs
       exact QC (Qjg (K+1) w b36 W a.r a.c T6 Sr t hW6 hs1 htm hr hac hK hbr) fun v w' h=>⟨h.1,h⟩
      obtain⟨_,T7,hk3,hin3,hW7,_⟩:=hR
      refine⟨wrH b36 W T7,hk3,hin3,?_⟩
      clear hk3 hin3 hk2
      repeat' first|apply jO|apply jN|apply jT|refine Q1 ?_|refine Q0 ?_|refine Qg ?_|apply jU|apply jE|apply jW|refine Qe ?_|refine Xe rfl ?_
      exact Qa (t+1,Sr.neg t,T7) ⟨by dsimp only;omega,hW7,Q6s hbr,hrest⟩ dgq cqq (by simpa [wrH] using HSub.refl _)
     ·rw[if_neg hneg]at hrest
      have hsg:¬(gE Sr.d t t).sign<0:=fun h=>hneg (Int.sign_neg_iff.1 h)
      repeat' first|apply jO|apply jN|apply jT|refine Q1 ?_|refine Q0 ?_|refine Qg ?_|(refine Qk (h1:=?_) (h2:=?_)<;>intro hc<;>try (exfalso;omega))|apply jU|apply jK|apply jE|refine Q4 rfl ?_|apply jW|refine Qe ?_|refine Xe rfl ?_
      exact Qa (t+1,Sr,T6) ⟨by dsimp only;omega,hW6,hbr,hrest⟩ dgq cqq (by simpa [wrH] using HSub.refl _)
    ·rw[hk]
     have hlt:=Q2a hk
     obtain⟨rfl,hb4⟩:=Q0t hop
     clear hk hop
     repeat' first|apply jS|apply jO|apply jN|apply jT|refine Q1 ?_|refine Q0 ?_|refine QP (h:=?_)|refine Qn (h:=?_)|apply jK|refine Q4 rfl ?_
     refine Q6 pqq rfl eqq rfl (fun w _ _=>YK w 1 dq dq) fun w v w' _ _ _ hR=>?_
     subst hR
     skip
     refine QQ (A:=[(b2,.cells smC0 74),(b1,.cells #[nv a.r,nv a.c,E] 26)]) (N:=wrH b36 W T6) (B:=[]) (R:=fun w v w'=>RkR b36 W a.r a.c T6 (Sr.rows t k (aT 1)) w w') (by simp only[wrH,List.cons_append,List.nil_append,List.append_assoc,List.append_nil]) pqq rfl eqq rfl (fun w _ hs=>?_) (fun w1 v1 w2 _ _ hk2 hR=>?_)
     ·have hs1:Hsat (wrH b36 W T6) w:=HSub.hsat (by exact HSub.skip (HSub.skip (by first|exact HSub.refl _|exact Qv|simpa [wrH] using HSub.refl _))) hs
      exact QC (Q7e (K+1) w b36 W a.r a.c T6 Sr t k 1 hW6 hs1 htm oq oq hr hac oq (Y2 K) hbr) fun v w' h=>⟨h.1,h⟩
     obtain⟨_,T7,hk3,hin3,hW7,_⟩:=hR
     refine⟨wrH b36 W T7,hk3,hin3,?_⟩
     clear hk3 hin3 hk2
     repeat' first|apply jN|apply jW
     exact Qa (g,Sr.rows t k (aT 1),T7) ⟨hW7,hb4,hst⟩ dgq cqq (by simpa [wrH] using HSub.refl _)
  ·have hfl:(leastF S1 t a.r a.c).2.2=false:=by simpa using hfl
   obtain rfl:=Q27 hst hfl
   rw[hfl]
   repeat' first|apply jS|apply jO|apply jN|apply jT|refine Q1 ?_|refine Q0 ?_|refine Qg ?_|refine QP (h:=?_)|refine Qn (h:=?_)|apply jU|apply jE|refine Q8 rfl ?_|apply jW|refine Qe ?_|refine Xe rfl ?_
   exact Qa (t+1,S2,T2) ⟨by dsimp only;omega,hW2,hb1,hrest⟩ dgq cqq (by simpa [wrH] using HSub.refl _)
 ·have h0:formR (K+1) f a.r a.c 0 t S=some S':=by rw[show min a.r a.c-t=0 by omega]at hf;exact hf
  rw[formR]at h0
  obtain rfl:=Option.some.inj h0
  by_cases htr:t<a.r
  ·have htc:¬t<a.c:=by omega
   repeat' first|apply jS|apply jO|refine Q1 ?_|refine Q3 ?_|refine Qb ?_|refine Ql ?_|(refine Qk (h1:=?_) (h2:=?_)<;>intro hc<;>try (exfalso;omega))|apply jN
   refine Qs ?_
   repeat' first|apply jU|apply jE|refine Q4 rfl ?_|refine Qe ?_
   exact JX.part cqq (by simpa [wrH] using HSub.refl _) (rest T hW)
  ·repeat' first|apply jS|apply jO|refine Q1 ?_|refine Q3 ?_|refine Qb ?_|refine Qx (h:=?_)|(refine Qk (h1:=?_) (h2:=?_)<;>intro hc<;>try (exfalso;omega))|refine QJ (h:=?_)|apply jN
   refine Qs ?_
   repeat' first|apply jU|apply jE|refine Q4 rfl ?_|refine Qe ?_
   exact JX.part cqq (by simpa [wrH] using HSub.refl _) (rest T hW)


section
variable {c:Cx} {Q:Exit→Act→World→Prop} {m:Mode} {F:SFrame} {H:SHeap} {r:List SOp} {g:Option (Option Tmp × Bool)} {ns:Bool} {d:Tmp} {ty:TypeId} {x:Operand}
theorem Q9r {s:TypeId} {fs:Array Field} {fl:Field} {f n:Nat} {vs us:Array Value} (hu:c.P.underlying s=some (.struct fs)) (hf:fs[f]?=some fl) (ht:TN c.P fl.type n) (hd:dstOk c.n (some d)=true) (hg:guardF F g=some true) (hx:ev F x=some (.agg vs)) (hn:fl.offset+n≤vs.size) (hv:vs.extract fl.offset (fl.offset+n)=us)
  (h:JO c Q m r ((d,.agg us)::F) H):JO c Q m (⟨some d,.field s x f,ty,g,.mov,ns⟩::r) F H :=
 Zz hd hg (fun a w fr=>by
  subst hv
  simp only[execOp,fr.ev hx,Instr.field,Sem.run_bind,run_underlying hu,Result.andThen_ok,hf,asAgg,Sem.run_pure,part,TN.agg,TN.size (n:=n),if_true,hn]) h
end
theorem YV {K fc f m n:Nat}:∀ {k t:Nat} {S S':Sm},formF K fc f m n k t S=some S'→Ok K S→Ok K S'
 | 0,_,_,_,h,hb=>by rw[formF]at h;cases h;exact hb
 | k + 1, t, S, S', h, hb => by
  obtain⟨S1,fl,h1,h2,h3⟩:=Q49 h
  have hb1:=Q6l h1 hb
  cases fl with
  | false=>rw[← h2 rfl];exact hb1
  | true =>
   obtain⟨S2,h4,h5⟩:=h3 rfl
   have hb2:=Q29 h4 hb1
   refine YV h5 ?_
   split
   ·exact Q6s hb2
   ·exact hb2
theorem Q1i (b:Nat) (z:Int):OwnZ [(b,.cells ⟨[.bool (wz z).1,sv (wz z).2]⟩ 35)] (.slice (some ⟨b,0,none⟩) 1 1) 1 [z]:=by
 have h:=OwnRow.mk' (e:=35) (sz:=2) (n:=1) (b:=b) (cs:=⟨[.bool (wz z).1,sv (wz z).2]⟩) spq (by simp only[maxLen];omega)
 exact h
def facP (g:List (List Int)) (k:Nat):List Int:=((List.range k).map fun i=>gE g i i).filter fun x=>decide (x≠0)
theorem Q72 {g:List (List Int)} {k:Nat} (h:gE g k k=0):facP g (k+1)=facP g k:=by
 unfold facP
 rw[List.range_succ,List.map_append,List.filter_append]
 simp[h]
theorem Q73 {g:List (List Int)} {k:Nat} (h:gE g k k≠0):facP g (k+1)=facP g k++[gE g k k]:=by
 unfold facP
 rw[List.range_succ,List.map_append,List.filter_append]
 simp[h]
theorem Q5i (g:List (List Int)) (k:Nat):(facP g k).length≤k:=by
 unfold facP
 refine Nat.le_trans (List.length_filter_le _ _) ?_
 simp
theorem Q70 {c:Nat}:∀ {g:List (List Int)},(∀ x∈g,x.length=c)→∀ i j,i<g.length→j<c→g.flatten.getD (i*c+j) 0=gE g i j
 | [],_,i,j,hi,_=>by cases hi
 | x::g,h,0,j,_,hj=>by
  have hx:=h x spq
  rw[List.flatten_cons,Nat.zero_mul,Nat.zero_add]
  unfold gE
  rw[List.getD,List.getElem?_append_left oq];rfl
 | x::g,h,i+1,j,hi,hj=>by
  have hx:=h x spq
  have ih:=Q70 (g:=g) (fun y hy=>h y (by simp[hy])) i j (by simpa using hi) hj
  rw[List.flatten_cons,Nat.succ_mul]
  unfold gE at ih ⊢
  rw[List.getD,List.getElem?_append_right oq,show i*c+c+j-x.length=i*c+j by omega]
  exact ih
theorem Qlt {r c i j:Nat} {g:List (List Int)} (h:Rec r c g) (hi:i<r) (hj:j<c):atZ (gM r c g) i j=gE g i j:=by
 unfold atZ
 rw[if_pos ⟨by omega,by show (i:Int)<(r:Int);omega,by omega,by show (j:Int)<(c:Int);omega⟩]
 exact Q70 h.row i j (by rw[h.len];exact hi) hj
theorem Qfv (K fc f:Nat) (w:World) (v:Value) (a:ZM) (S':Sm) (ha:RtZ a) (hv:IsM w v a) (hK:K+1≤1800000000000) (hb:BdZ (K+1) a)
  (hf:formF (K+1) fc f a.r a.c (min a.r a.c) 0 (startS a.r a.c (rowsOf a))=some S') :
  Calls Tryz.prog 98 #[v] w (Ret fun v w'=>Kp [] w w'∧∃ N,New N w w'∧OwnZ N v (facP S'.d (min a.r a.c)).length (facP S'.d (min a.r a.c))):=by
 have hv0:=hv
 have hr:=ha.r
 have hac:=ha.c
 have hbS:=YV hf (Yd ha hb)
 obtain⟨E,rfl,hE⟩:=hv
 refine Q9 [] [] spq [] Tryz.func98 rfl mixed (by kernel_rfl) Tryz.ntmps98 Tryz.results98 rfl ⟨by simp,by simp⟩ spq ?_
 simp only[toS,textOps,toSOp,kindAt,kindOf,odAt,sopsAt,ordOf,zipF]
 repeat' first|apply jS|apply jO|apply jN|refine Q0 ?_|refine Q7 ?_|refine Qt fun _=>?_|apply jT
 rename_i b1
 refine Qd (A:=[_]) (B:=[]) rfl pqq rfl eqq rfl (fun w hk hs=>Qay K fc f w _ a S' ha (hv0.mono hk) hK hb hf) fun w v w' _ _ _ hR=>?_
 obtain⟨N1,N2,N3,N4,N5,E1,E2,E3,E4,E5,rfl,hD,hN,hO1,hO2,hO3,hO4,hO5⟩:=hR
 obtain⟨A3,c3,rfl⟩:=hO3.form
 refine⟨_,hN,?_⟩
 refine Q9r Tryz.underlying74 rfl (show TN Tryz.prog 26 3 from inferInstance) rfl rfl rfl (us:=#[nv a.r,nv a.c,.slice A3 (a.r*a.c) c3]) (by show (6+3≤(15:Nat));decide) rfl ?_
 have hO3z:OwnZ N3 (.slice A3 (a.r*a.c) c3) (gM a.r a.c S'.d).e.length (gM a.r a.c S'.d).e:=by rw[show (gM a.r a.c S'.d).e.length=a.r*a.c from YW hD.d];exact hO3
 have hgR:RtZ (gM a.r a.c S'.d):=Xs hD.d hr hac
 clear hO1 hO2 hO3 hO4 hO5 hN hf hb hE
 repeat' first|apply jS|apply jO|apply jN|apply jT|refine Q1 ?_|refine Q3 ?_|refine Q0 ?_|refine Qb ?_|refine Qbd (h:=?_)|refine Q2 ?_|refine Qc fun _=>?_|refine Q2 ?_|apply jB
 rename_i b3
 have hmin:(if (a.c:Int)<(a.r:Int) then (a.c:Int) else (a.r:Int))=((min a.r a.c:Nat):Int):=by split<;>omega
 rw[hmin]
 refine Qi (ι:=Nat × SHeap × Value) ⟨fun z=>[(15,nv z.1),(14,nv (min a.r a.c)),(4,z.2.2),(3,.pointer (some ⟨b3,0,none⟩))],fun z=>[(b3,.cells #[nv a.r,nv a.c,.slice A3 (a.r*a.c) c3] 26)]++(N3++(z.2.1++[])),
  fun z=>z.1≤min a.r a.c∧OwnZ z.2.1 z.2.2 (facP S'.d z.1).length (facP S'.d z.1),fun z=>min a.r a.c-z.1⟩ (0,[],.slice none 0 0) ⟨Nat.zero_le _,OwnZ.nil⟩ cqq ?_ (fun z hz=>?_)
 ·exact HSub.at 0 rfl (HSub.skip (by show HSub (N3++[]) (N1++(N2++(N3++(N4++N5)))++[]);simp only[List.append_nil];exact Qj (Qj Qv)))
 obtain⟨k,N,v4⟩:=z
 obtain⟨hk,hO⟩:=hz
 dsimp only at hk hO ⊢
 by_cases hlt:k<min a.r a.c
 ·have hk1:k<a.r:=by omega
  have hk2:k<a.c:=by omega
  have hx:(gE S'.d k k).natAbs<256 ^ (K+1):=Z7 hbS.d k k
  repeat' first|apply jS|apply jO|apply jN|apply jT|refine Q1 ?_|refine Q0 ?_|refine Q7 ?_|(refine Qk (h1:=?_) (h2:=?_)<;>intro hc<;>try (exfalso;omega))|apply jK|refine Q8 rfl ?_|apply jB
  refine Q6 pqq rfl eqq rfl (fun w hk hs=>c_At w _ (gM a.r a.c S'.d) (k:Int) (k:Int) hgR ⟨_,rfl,hO3z.rd.at hk hs Q5⟩) fun w v w' _ _ _ hR=>?_
  rw[Qlt hD.d hk1 hk2]at hR
  subst hR
  repeat' first|apply jS|apply jO|apply jN|refine Q7 ?_|refine Q2 ?_|refine Qc fun _=>?_|refine Q2 ?_|apply jT
  refine Q6 pqq rfl eqq rfl (fun w _ _=>Xa w _ (gE S'.d k k) (K+1) (Qf hx) oq) fun w v w' _ _ _ hR=>?_
  subst hR
  by_cases hz:gE S'.d k k=0
  ·rw[← Q72 hz]at hO
   rw[show (gE S'.d k k).sign=0 by rw[hz];rfl]
   repeat' first|apply jO|apply jN|apply jT|refine Q1 ?_|refine Qg ?_|(refine Z5 (h1:=?_) (h2:=?_)<;>intro hc<;>try (exfalso;omega))|apply jK|refine Q4 rfl ?_|apply jW
   exact Qa (k+1,N,v4) ⟨by dsimp only;omega,hO⟩ dgq cqq Qz
  ·have hsz:¬(gE S'.d k k).sign=0:=fun h=>hz (Int.sign_eq_zero_iff_zero.1 h)
   have hfs:=Q73 hz
   have hfl:=Q5i S'.d k
   repeat' first|apply jO|apply jN|apply jT|refine Q1 ?_|refine Q7 ?_|(refine Z5 (h1:=?_) (h2:=?_)<;>intro hc<;>try (exfalso;omega))|refine Q8 rfl ?_
   refine Yq (sz:=2) (vs:=[Wv (gE S'.d k k)]) (cl:=[.bool (wz (gE S'.d k k)).1,sv (wz (gE S'.d k k)).2]) rfl rfl (by first|rfl|trivial|exact⟨rfl,rfl⟩) rfl rfl (fun v hv=>by
    cases List.mem_singleton.1 hv;rfl) rfl dq dq (fun b=>?_)
   have h1:=Q1i b (gE S'.d k k)
   skip
   refine ZC (A:=_::_::_::N3) (B:=[]) hO h1.rd Q5 rfl pqq rfl rfl rfl rfl oq (fun v' N' hO'=>?_)
   rw[← hfs,show (facP S'.d k).length+1=(facP S'.d (k+1)).length by rw[hfs];simp]at hO'
   repeat' first|apply jO|apply jN|apply jT|refine Q1 ?_|refine Q0 ?_|refine Qg ?_|apply jW
   exact Qa (k+1,N',v') ⟨by dsimp only;omega,hO'⟩ dgq cqq (by exact HSub.skip (HSub.skip (by simp only[List.cons_append,List.nil_append,List.append_assoc];exact HSub.refl _)))
 ·obtain rfl:k=min a.r a.c:=by omega
  repeat' first|apply jS|apply jO|apply jN|apply jT|refine Q1 ?_|refine Q0 ?_|(refine Qk (h1:=?_) (h2:=?_)<;>intro hc<;>try (exfalso;omega))|apply jU|apply jE|apply jR|refine Q4 rfl ?_|refine Qe ?_
  exact Qh rfl (fun a w' st=>⟨st.kp,N,st.newOf rfl Q5,hO⟩)

theorem Qjo (K fc f:Nat) (w:World) (v:Value) (a:ZM) (S':Sm) (ha:RtZ a) (hv:IsM w v a) (hK:K+1≤1800000000000) (hb:BdZ (K+1) a)
  (hf:formF (K+1) fc f a.r a.c (min a.r a.c) 0 (startS a.r a.c (rowsOf a))=some S') :
  Calls Tryz.prog 49 #[v] w (Ret fun v w'=>Kp [] w w'∧v=nv (facP S'.d (min a.r a.c)).length):=by
 have hv0:=hv
 have hr:=ha.r
 have hfl:=Q5i S'.d (min a.r a.c)
 obtain⟨E,rfl,hE⟩:=hv
 refine Q9 [] [] spq [] Tryz.func49 rfl mixed (by kernel_rfl) Tryz.ntmps49 Tryz.results49 rfl ⟨by simp,by simp⟩ spq ?_
 simp only[toS,textOps,toSOp,kindAt,kindOf,odAt,sopsAt,ordOf,zipF]
 repeat' first|apply jS|apply jO|apply jN|refine Q0 ?_|refine Q7 ?_|refine Qt fun _=>?_|apply jT
 refine Qd (A:=[_]) (B:=[]) rfl pqq rfl eqq rfl (fun w hk hs=>Qfv K fc f w _ a S' ha (hv0.mono hk) hK hb hf) fun w v w' _ _ _ hR=>?_
 obtain⟨N,hN,hO⟩:=hR
 obtain⟨A,cc,rfl⟩:=hO.form
 refine⟨_,hN,?_⟩
 repeat' first|apply jN|apply jT|refine Q0 ?_|refine ZA (h:=?_)|apply jR
 exact Qh rfl (fun a w' st=>⟨st.kp,rfl⟩)



section
variable {c:Cx} {Q:Exit→Act→World→Prop} {m:Mode} {F:SFrame} {H:SHeap} {r:List SOp} {g:Option (Option Tmp × Bool)} {ns:Bool} {d:Tmp} {ty t:TypeId} {x:Operand}
theorem XD {b o:Nat} (k:Nat) {cs:Array Value} {x1 x2 x3:Value} {T:TypeId} {fz:Nat × Nat} [TN c.P t 3] (hd:dstOk c.n (some d)=true) (hg:guardF F g=some true) (hx:ev F x=some (.pointer (some ⟨b,o,none⟩))) (hl:m.live=true)
  (hb:(m.src H)[k]?=some (b,.cells cs T fz)) (h1:cs[o]?=some x1) (h2:cs[o+1]?=some x2) (h3:cs[o+2]?=some x3) (h:JO c Q m r ((d,(.agg #[x1,x2,x3]))::F) H):JO c Q m (⟨some d,.load t x,ty,g,.ld,ns⟩::r) F H :=
 Qdh k hd hg hx hl hb (vs:=#[x1,x2,x3]) rfl (fun j hj=>by
  match j,hj with
  | 0,_=>exact h1
  | 1,_=>exact h2
  | 2,_=>exact h3) h
end


theorem Q26 {K t m n:Nat}:∀ {f:Nat} {S S':Sm},stageR K t m n f S=some S'→Ok K S→Ok K S'
 | 0,_,_,h,_=>by cases h
 | f + 1, S, S', h, hb => by
  by_cases hl:(leastF S t m n).2.2=true
  ·obtain⟨S1,S2,r,h1,h2,h3,h4,h5⟩:=Q25 h hl
   have hbr:=Q4d h3 (Qj0 h2 (Qiz h1 hb))
   cases hr:r.2 with
   | false=>exact Q26 (h4 hr) hbr
   | true =>
    rcases h5 hr with ⟨_,rfl⟩|⟨k,S4,_,h6,h7⟩
    ·split
     ·exact Q6s hbr
     ·exact hbr
    ·exact Q26 h7 (Q0t h6).2
  ·rw[Q27 h (by simpa using hl)];exact hb
theorem Qah {K f m n:Nat}:∀ {k t:Nat} {S S':Sm},formR K f m n k t S=some S'→Ok K S→Ok K S'
 | 0,_,_,_,h,hb=>by rw[formR]at h;cases h;exact hb
 | k+1,t,S,S',h,hb=>by
  obtain⟨S1,h1,h2⟩:=Q48 h
  exact Qah h2 (Q26 h1 hb)

theorem Q4h (K f:Nat) (w:World) (v:Value) (a:ZM) (S':Sm) (ha:RtZ a) (hv:IsM w v a) (hK:K+1≤220000000000) (hb:BdZ (K+1) a)
  (hf:formR (K+1) f a.r a.c (min a.r a.c) 0 (startS a.r a.c (rowsOf a))=some S') :
  Calls Tryz.prog 17 #[v] w (Ret fun v w'=>Kp [] w w'∧∃ N,New N w w'∧OwnZ N v (facP S'.d (min a.r a.c)).length (facP S'.d (min a.r a.c))):=by
 have hv0:=hv
 have hr:=ha.r
 have hac:=ha.c
 have hbS:=Qah hf (Yd ha hb)
 obtain⟨E,rfl,hE⟩:=hv
 refine Q9 [] [] spq [] Tryz.func17 rfl mixed (by kernel_rfl) Tryz.ntmps17 Tryz.results17 rfl ⟨by simp,by simp⟩ spq ?_
 simp only[toS,textOps,toSOp,kindAt,kindOf,odAt,sopsAt,ordOf,zipF]
 repeat' first|apply jS|apply jO|apply jN|refine Q0 ?_|refine Q7 ?_|refine Qt fun _=>?_|apply jT
 rename_i b1
 refine Qd (A:=[_]) (B:=[]) rfl pqq rfl eqq rfl (fun w hk hs=>Qmf K f w _ a S' ha (hv0.mono hk) hK hb hf) fun w v w' _ _ _ hR=>?_
 obtain⟨N1,N2,N3,N4,N5,E1,E2,E3,E4,E5,rfl,hD,hN,hO1,hO2,hO3,hO4,hO5⟩:=hR
 obtain⟨A1,c1,rfl⟩:=hO1.form
 obtain⟨A2,c2,rfl⟩:=hO2.form
 obtain⟨A3,c3,rfl⟩:=hO3.form
 obtain⟨A4,c4,rfl⟩:=hO4.form
 obtain⟨A5,c5,rfl⟩:=hO5.form
 refine⟨_,hN,?_⟩
 have hO3z:OwnZ N3 (.slice A3 (a.r*a.c) c3) (gM a.r a.c S'.d).e.length (gM a.r a.c S'.d).e:=by rw[show (gM a.r a.c S'.d).e.length=a.r*a.c from YW hD.d];exact hO3
 have hgR:RtZ (gM a.r a.c S'.d):=Xs hD.d hr hac
 clear hO1 hO2 hO3 hO4 hO5 hN hf hb hE
 unfold smC
 repeat' first|apply jS|apply jO|apply jN|apply jT|refine Q0 ?_|refine Q2 ?_|refine Qc fun _=>?_|refine Q2 ?_|apply jB
 rename_i b3
 refine Qi (ι:=Nat × SHeap × Value) ⟨fun z=>[(5,nv z.1),(4,z.2.2),(3,.pointer (some ⟨b3,0,none⟩))],fun z=>[(b3,.cells (smC a.r a.c (.slice A1 (a.r*a.r) c1) (.slice A2 (a.r*a.r) c2) (.slice A3 (a.r*a.c) c3) (.slice A4 (a.c*a.c) c4) (.slice A5 (a.c*a.c) c5)) 74)]++(N3++(z.2.1++[])),
  fun z=>z.1≤min a.r a.c∧OwnZ z.2.1 z.2.2 (facP S'.d z.1).length (facP S'.d z.1),fun z=>min a.r a.c-z.1⟩ (0,[],.slice none 0 0) ⟨Nat.zero_le _,OwnZ.nil⟩ cqq ?_ (fun z hz=>?_)
 ·exact HSub.at 0 rfl (HSub.skip (by show HSub (N3++[]) (N1++(N2++(N3++(N4++N5)))++[]);simp only[List.append_nil];exact Qj (Qj Qv)))
 obtain⟨k,N,v4⟩:=z
 obtain⟨hk,hO⟩:=hz
 dsimp only at hk hO ⊢
 by_cases hlt:k<min a.r a.c
 ·have hk1:k<a.r:=by omega
  have hk2:k<a.c:=by omega
  have hx:(gE S'.d k k).natAbs<256 ^ (K+1):=Z7 hbS.d k k
  repeat' first|apply jS|apply jO|apply jN|apply jT|refine Q1 ?_|refine Q3 ?_|refine Qb ?_|refine Ql ?_|(refine Qk (h1:=?_) (h2:=?_)<;>intro hc<;>try (exfalso;omega))|apply jK|refine Q8 rfl ?_|apply jB
  refine XD 0 rfl eqq rfl rfl rfl rfl rfl rfl ?_
  repeat' first|refine Q1 ?_|fail
  refine Q6 pqq rfl eqq rfl (fun w hk hs=>Qme w _ (gM a.r a.c S'.d) (k:Int) (k:Int) hgR ⟨_,rfl,hO3z.rd.at hk hs Q5⟩) fun w v w' _ _ _ hR=>?_
  rw[Qlt hD.d hk1 hk2]at hR
  subst hR
  repeat' first|refine Q2 ?_|refine Qc fun _=>?_|refine Q2 ?_|apply jN
  rename_i b6
  refine Qs ?_
  repeat' first|apply jS|refine Q7 ?_|apply jO
  refine Q6 pqq rfl eqq rfl (fun w _ _=>ZE w _ (gE S'.d k k) (K+1) (Qf hx) oq) fun w v w' _ _ _ hR=>?_
  subst hR
  by_cases hz:gE S'.d k k=0
  ·rw[← Q72 hz]at hO
   rw[show (gE S'.d k k).sign=0 by rw[hz];rfl]
   repeat' first|apply jO|apply jN|apply jT|refine Q1 ?_|refine Q0 ?_|refine Qg ?_|(refine Z5 (h1:=?_) (h2:=?_)<;>intro hc<;>try (exfalso;omega))|apply jK|refine Q4 rfl ?_|apply jW
   exact Qa (k+1,N,v4) ⟨by dsimp only;omega,hO⟩ dgq cqq (HSub.skip (HSub.refl _))
  ·have hsz:¬(gE S'.d k k).sign=0:=fun h=>hz (Int.sign_eq_zero_iff_zero.1 h)
   have hfs:=Q73 hz
   have hfl:=Q5i S'.d k
   repeat' first|apply jO|apply jN|apply jT|refine Q1 ?_|refine Q7 ?_|(refine Z5 (h1:=?_) (h2:=?_)<;>intro hc<;>try (exfalso;omega))|refine Q8 rfl ?_
   refine Yq (sz:=2) (vs:=[Wv (gE S'.d k k)]) (cl:=[.bool (wz (gE S'.d k k)).1,sv (wz (gE S'.d k k)).2]) rfl rfl (by first|rfl|trivial|exact⟨rfl,rfl⟩) rfl rfl (fun v hv=>by
    cases List.mem_singleton.1 hv;rfl) rfl dq dq (fun b=>?_)
   have h1:=Q1i b (gE S'.d k k)
   skip
   refine ZC (A:=_::_::_::N3) (B:=[]) hO h1.rd Q5 rfl pqq rfl rfl rfl rfl oq (fun v' N' hO'=>?_)
   rw[← hfs,show (facP S'.d k).length+1=(facP S'.d (k+1)).length by rw[hfs];simp]at hO'
   repeat' first|apply jO|apply jN|apply jT|refine Q1 ?_|refine Q0 ?_|refine Qg ?_|apply jW
   exact Qa (k+1,N',v') ⟨by dsimp only;omega,hO'⟩ dgq cqq (by exact HSub.skip (HSub.skip (by simp only[List.cons_append,List.nil_append,List.append_assoc];exact HSub.refl _)))
 ·obtain rfl:k=min a.r a.c:=by omega
  by_cases htr:min a.r a.c<a.r
  ·have htc:¬min a.r a.c<a.c:=by omega
   repeat' first|apply jS|apply jO|apply jN|apply jT|refine Q1 ?_|refine Q3 ?_|refine Q0 ?_|refine Qb ?_|refine Ql ?_|(refine Qk (h1:=?_) (h2:=?_)<;>intro hc<;>try (exfalso;omega))|apply jU|apply jE|apply jR|refine Q4 rfl ?_|refine Qe ?_
   exact Qh rfl (fun a w' st=>⟨st.kp,N,st.newOf rfl Q5,hO⟩)
  ·repeat' first|apply jS|apply jO|apply jN|apply jT|refine Q1 ?_|refine Q3 ?_|refine Q0 ?_|refine Qb ?_|refine Qx (h:=?_)|(refine Qk (h1:=?_) (h2:=?_)<;>intro hc<;>try (exfalso;omega))|apply jU|apply jE|refine Q4 rfl ?_|refine Qe ?_|refine QJ (h:=?_)|apply jR
   exact Qh rfl (fun a w' st=>⟨st.kp,N,st.newOf rfl Q5,hO⟩)


theorem Q1h (b:Nat) (z:Int):OwnZ [(b,.cells ⟨[.bool (wz z).1,sv (wz z).2]⟩ 35)] (.slice (some ⟨b,0,none⟩) 1 1) 1 [z]:=by
 have h:=OwnRow.mk' (e:=35) (sz:=2) (n:=1) (b:=b) (cs:=⟨[.bool (wz z).1,sv (wz z).2]⟩) spq (by simp only[maxLen];omega)
 exact h

open Classical in
def GivesLB (zs:List Int) (b:Bool) (w:World) (v:Value) (w':World):Prop:=∃ N E,New N w w'∧v=.tuple #[E,.bool b]∧OwnZ N E zs.length zs
theorem GivesLB.nil {w w':World} {v:Value} (h:v=.tuple #[.slice none 0 0,.bool false]):GivesLB [] false w v w':=⟨[],_,New.nil _ _,h,OwnZ.nil⟩
theorem BdL.of {L:Nat} {zs:List Int} (h:∀ i,(zs.getD i 0).natAbs<256 ^ L):BdL L zs:=h

section
variable {c:Cx} {Q:Exit→Act→World→Prop} {m:Mode} {F:SFrame} {H:SHeap} {r:List SOp} {g:Option (Option Tmp × Bool)} {ns:Bool} {d:Tmp} {ty t t':TypeId} {x y:Operand} {N:SHeap} {n:Nat} {v:Value}
end


theorem Qcu {a:Int} (h:a.sign=0):true=decide (a=0):=(decide_eq_true (Int.sign_eq_zero_iff_zero.1 h)).symm
theorem Qcv {a:Int} (h:a.sign≠0):false=decide (a=0):=(decide_eq_false (fun e=>h (by rw[e];rfl))).symm

theorem Q0j (w:World) (v:Value) (a:Int) (k:Nat) (hv:IsZ v a k) (hk:k≤3900000000000) :
  Calls Tryz.prog 60 #[v] w (Ret fun r w'=>Kp [] w w'∧r=.bool (decide (a=0))):=by
 have hv0:=hv
 obtain⟨p,l,rfl,hl,ha⟩:=hv
 refine Q9 [] [] spq [] Tryz.func60 rfl mixed (by kernel_rfl) Tryz.ntmps60 Tryz.results60 rfl ⟨by simp,by simp⟩ spq ?_
 simp only[toS,textOps,toSOp,kindAt,kindOf,odAt,sopsAt,ordOf,zipF]
 repeat' first|apply jS|apply jO|apply jN|refine Q0 ?_|refine Q7 ?_|refine Qt fun _=>?_|apply jT
 refine Q6 pqq rfl eqq rfl (fun w _ _=>Xa w _ a k hv0 oq) fun w v w' _ _ _ hR=>?_
 subst hR
 repeat' first|apply jN|apply jT|refine Q0 ?_|(refine QU (h1:=?_) (h2:=?_)<;>intro hc<;>try (exfalso;omega))|apply jR
 ·exact Qh rfl (fun a' w' st=>⟨st.kp,congrArg Value.bool (Qcu hc)⟩)
 ·exact Qh rfl (fun a' w' st=>⟨st.kp,congrArg Value.bool (Qcv hc)⟩)

theorem Qor (w:World) (v u:Value) (m a:Int) (k:Nat) (hv:IsZ v m k) (hu:IsZ u a k) (hk:k≤3900000000000) :
  Calls Tryz.prog 85 #[v,u] w (Ret fun r w'=>Kp [] w w'∧r=.bool (decide (m∣a))):=by
 have hv0:=hv
 have hu0:=hu
 obtain⟨p,l,rfl,hl,hm⟩:=hv
 obtain⟨q,l',rfl,hl',ha⟩:=hu
 refine Q9 [] [] spq [] Tryz.func85 rfl mixed (by kernel_rfl) Tryz.ntmps85 Tryz.results85 rfl ⟨by simp,by simp⟩ spq ?_
 simp only[toS,textOps,toSOp,kindAt,kindOf,odAt,sopsAt,ordOf,zipF]
 repeat' first|apply jS|apply jO|apply jN|refine Q0 ?_|refine Q7 ?_|refine Qt fun _=>?_|apply jT
 refine Q6 pqq rfl eqq rfl (fun w _ _=>Q0j w _ m k hv0 oq) fun w v w' _ _ _ hR=>?_
 subst hR
 by_cases hz:m=0
 ·rw[decide_eq_true hz]
  repeat' first|apply jS|apply jO|apply jN|apply jT|refine Q7 ?_|refine Q8 rfl ?_
  refine Q6 pqq rfl eqq rfl (fun w _ _=>Q0j w _ a k hu0 oq) fun w v w' _ _ _ hR=>?_
  subst hR
  repeat' first|apply jN|apply jT|refine Q0 ?_|apply jV|apply jR
  exact Qh rfl (fun a' w' st=>⟨st.kp,congrArg Value.bool (by rw[decide_eq_decide,hz,Int.zero_dvd])⟩)
 ·rw[decide_eq_false hz]
  repeat' first|apply jS|apply jO|apply jN|apply jT|refine Q7 ?_|apply jK|refine Q4 rfl ?_
  refine Q6 pqq rfl eqq rfl (fun w _ _=>Q15 w _ _ a m k hu0 hv0 oq) fun w v w' _ _ _ hR=>?_
  rw[if_neg hz]at hR
  subst hR
  have hr:(a % m).natAbs<256 ^ k:=by
   have h1:=hv0.lt
   have h2:=Int.emod_lt a hz
   have h3:=Int.emod_nonneg a hz
   omega
  repeat' first|apply jS|apply jO|apply jN|refine Q1 ?_|refine Q0 ?_|refine Q7 ?_|refine Qn (h:=?_)|refine Q2 ?_|refine Qc fun _=>?_|refine Q2 ?_|apply jT
  refine Q6 pqq rfl eqq rfl (fun w _ _=>Q0j w _ (a % m) k (Qf hr) oq) fun w v w' _ _ _ hR=>?_
  subst hR
  repeat' first|apply jN|apply jT|refine Q0 ?_|apply jR
  exact Qh rfl (fun a' w' st=>⟨st.kp,congrArg Value.bool (by rw[decide_eq_decide];exact⟨Int.dvd_of_emod_eq_zero,Int.emod_eq_zero_of_dvd⟩)⟩)

theorem Qjh (w:World) (v u:Value) (m a:Int) (k:Nat) (hv:IsZ v m k) (hu:IsZ u a k) (hk:k≤900000000000) :
  Calls Tryz.prog 70 #[v,u] w (Ret fun r w'=>Kp [] w w'∧r=.bool (decide (m∣a))):=by
 have hv0:=hv
 have hu0:=hu
 obtain⟨p,l,rfl,hl,hm⟩:=hv
 obtain⟨q,l',rfl,hl',ha⟩:=hu
 refine Q9 [] [] spq [] Tryz.func70 rfl mixed (by kernel_rfl) Tryz.ntmps70 Tryz.results70 rfl ⟨by simp,by simp⟩ spq ?_
 simp only[toS,textOps,toSOp,kindAt,kindOf,odAt,sopsAt,ordOf,zipF]
 repeat' first|apply jS|apply jO|apply jN|refine Q0 ?_|refine Q7 ?_|refine Qt fun _=>?_|apply jT
 refine Q6 pqq rfl eqq rfl (fun w _ _=>ZE w _ m k hv0 oq) fun w v w' _ _ _ hR=>?_
 subst hR
 by_cases hz:m=0
 ·rw[show m.sign=0 from Int.sign_eq_zero_iff_zero.2 hz]
  repeat' first|apply jS|apply jO|apply jN|apply jT|refine Q7 ?_|(refine QU (h1:=?_) (h2:=?_)<;>intro hc<;>try (exfalso;omega))|refine Q8 rfl ?_
  refine Q6 pqq rfl eqq rfl (fun w _ _=>ZE w _ a k hu0 oq) fun w v w' _ _ _ hR=>?_
  subst hR
  repeat' first|apply jN|apply jT|refine Q0 ?_|(refine QU (h1:=?_) (h2:=?_)<;>intro hc<;>try (exfalso;omega))|apply jV|apply jR
  ·exact Qh rfl (fun a' w' st=>⟨st.kp,congrArg Value.bool (by rw[Qcu hc,decide_eq_decide,hz,Int.zero_dvd])⟩)
  ·exact Qh rfl (fun a' w' st=>⟨st.kp,congrArg Value.bool (by rw[Qcv hc,decide_eq_decide,hz,Int.zero_dvd])⟩)
 ·have hz':m.sign≠0:=fun h=>hz (Int.sign_eq_zero_iff_zero.1 h)
  repeat' first|apply jS|apply jO|apply jN|apply jT|refine Q7 ?_|(refine QU (h1:=?_) (h2:=?_)<;>intro hc<;>try (exfalso;omega))|apply jK|refine Q4 rfl ?_
  all_goals first
   | contradiction
   | skip
  refine Q6 pqq rfl eqq rfl (fun w _ _=>Qaw w _ _ a m k hu0 hv0 oq) fun w v w' _ _ _ hR=>?_
  rw[if_neg hz]at hR
  subst hR
  have hr:(a % m).natAbs<256 ^ k:=by
   have h1:=hv0.lt
   have h2:=Int.emod_lt a hz
   have h3:=Int.emod_nonneg a hz
   omega
  repeat' first|apply jS|apply jO|apply jN|refine Q1 ?_|refine Q0 ?_|refine Q7 ?_|refine Qn (h:=?_)|refine Q2 ?_|refine Qc fun _=>?_|refine Q2 ?_|apply jT
  refine Q6 pqq rfl eqq rfl (fun w _ _=>ZE w _ (a % m) k (Qf hr) oq) fun w v w' _ _ _ hR=>?_
  subst hR
  repeat' first|apply jN|apply jT|refine Q0 ?_|(refine QU (h1:=?_) (h2:=?_)<;>intro hc<;>try (exfalso;omega))|apply jR
  ·exact Qh rfl (fun a' w' st=>⟨st.kp,congrArg Value.bool (by rw[Qcu hc,decide_eq_decide];exact⟨Int.dvd_of_emod_eq_zero,Int.emod_eq_zero_of_dvd⟩)⟩)
  ·exact Qh rfl (fun a' w' st=>⟨st.kp,congrArg Value.bool (by rw[Qcv hc,decide_eq_decide];exact⟨Int.dvd_of_emod_eq_zero,Int.emod_eq_zero_of_dvd⟩)⟩)

theorem is0 (K:Nat):IsZ (wv false []) 0 K:=by rw[← Wz0];exact Qf (pos256 K)
theorem Q3x {xs:List Int} {n k:Nat}:(tab n fun i=>if i<k then xs.getD i 0 else 0).set k (xs.getD k 0+0)=tab n fun i=>if i<k+1 then xs.getD i 0 else 0:=by
 rw[Int.add_zero]
 exact Q91 (f:=fun i=>xs.getD i 0)
theorem Q6k {xs:List Int} {n:Nat} (h:xs.length=n):(tab n fun i=>if i<n then xs.getD i 0 else 0)=xs:=by
 rw[Zo (g':=fun i=>xs.getD i 0) (fun i hi=>if_pos hi)]
 exact Qcc h

theorem Qmg (K:Nat) (w:World) (v:Value) (n:Nat) (xs:List Int) (hv:WZ w v n xs) (hn:n≤2000000) (hK:K≤3900000000000) (hx:BdL K xs) :
  Calls Tryz.prog 76 #[v] w (Ret fun v w'=>Kp [] w w'∧∃ N,New N w w'∧OwnZ N v n xs):=by
 have hlen:xs.length=n:=by simpa using hv.len
 obtain⟨A0,c0,rfl⟩:=hv.form
 have hv0:=hv
 refine Q9 [] [] spq [] Tryz.func76 rfl mixed (by kernel_rfl) Tryz.ntmps76 Tryz.results76 rfl ⟨by simp,by simp⟩ spq ?_
 simp only[toS,textOps,toSOp,kindAt,kindOf,odAt,sopsAt,ordOf,zipF]
 have hR:=WZ.rd (c:=⟨Tryz.prog,24,w,[],by simp⟩) hv0 rfl []
 repeat' first|apply jS|apply jO|apply jN|refine Q1 ?_|refine Q0 ?_|refine ZA (h:=?_)|apply jT
 refine Y7 rfl rfl rfl rfl rfl oq oq (fun b=>?_)
 have h0:=X9 b n (by simp only[maxLen];omega)
 repeat' first|apply jS|apply jO|apply jN|apply jT|refine Q1 ?_|refine Q0 ?_|refine ZA (h:=?_)|apply jB
 refine Qi (ι:=Nat × SHeap) ⟨fun z=>[(11,nv z.1),(10,nv n),(9,.slice A0 n c0),(3,.slice (some ⟨b,0,none⟩) n n),(0,.slice A0 n c0)],
  fun z=>z.2++[],fun z=>z.1≤n∧OwnZ z.2 (.slice (some ⟨b,0,none⟩) n n) n (tab n fun i=>if i<z.1 then xs.getD i 0 else 0),fun z=>n-z.1⟩ (0,_) ⟨by omega,by simpa using h0⟩ cqq (HSub.refl _) (fun k hk=>?_)
 obtain⟨k,N⟩:=k
 obtain⟨hkn,hO⟩:=hk
 dsimp only at hkn hO ⊢
 by_cases hlt:k<n
 ·repeat' first|apply jS|apply jO|apply jN|apply jT|refine Q1 ?_|refine Q0 ?_|refine Q7 ?_|refine Ze (h:=?_)|refine W7 (h:=?_)|refine Q2 ?_|(refine Qk (h1:=?_) (h2:=?_)<;>intro hc<;>try (exfalso;omega))|refine Qc fun _=>?_|refine Zu (h:=?_)|refine Q2 ?_|apply jK|refine Q8 rfl ?_|apply jB
  refine Q6 pqq rfl eqq rfl (fun w _ _=>Qfz w _ _ (xs.getD k 0) 0 K (Qf (hx k)) (is0 K) oq) fun w v w' _ _ _ hR=>?_
  subst hR
  repeat' first|refine Ze (h:=?_)|fail
  refine Q13 (A:=[_]) hO rfl rfl pqq rfl rfl hlt (fun N' hO'=>?_)
  rw[Q3x]at hO'
  repeat' first|apply jO|apply jN|apply jT|refine Q1 ?_|refine Qg ?_|apply jW
  exact Qa (k+1,N') ⟨by dsimp only;omega,hO'⟩ dgq cqq (by exact HSub.skip (HSub.refl _))
 ·repeat' first|apply jS|apply jO|apply jN|apply jT|refine Q1 ?_|refine Q0 ?_|(refine Qk (h1:=?_) (h2:=?_)<;>intro hc<;>try (exfalso;omega))|apply jU|apply jE|apply jR|refine Q4 rfl ?_|refine Qe ?_
  obtain rfl:k=n:=by omega
  rw[Q6k hlen]at hO
  exact Qh rfl (fun a w' st=>⟨st.kp,N,st.newOf rfl (by simpa using HSub.refl _),hO⟩)


theorem Q98 (n:Int) {m:Int} (hm:0<m) : -m<n.tmod m∧n.tmod m<m:=by
 have h1:=Int.tmod_lt_of_pos n hm
 have h2:=Int.lt_tmod_of_pos n hm
 omega
theorem Qo8 (n:Int) {m:Int} (hm:0<m):(n.tmod m+m).tmod m=n % m:=by
 have h:=Q98 n hm
 rw[Int.tmod_eq_emod_of_nonneg oq]
 have h1:(n.tmod m+m) % m=n.tmod m % m:=by simp
 rw[h1]
 have h2:=Int.tmod_add_mul_tdiv n m
 rw[show n.tmod m=n+m*(-(n.tdiv m)) by rw[Int.mul_neg];omega,Int.add_mul_emod_self_left]

theorem Qfn (w:World) (n m:Int) (hm:0<m) (hb:m<1000000000000) :
  Calls Tryz.prog 46 #[iv n,iv m] w (Ret fun v w'=>Kp [] w w'∧v=iv (n % m)):=by
 have h:=Q98 n hm
 refine Q9 [] [] spq [] Tryz.func46 rfl mixed (by kernel_rfl) Tryz.ntmps46 Tryz.results46 rfl ⟨by simp,by simp⟩ spq ?_
 simp only[toS,textOps,toSOp,kindAt,kindOf,odAt,sopsAt,ordOf,zipF]
 repeat' first|apply jS|apply jO|apply jN|apply jT|refine Q1 ?_|refine Q0 ?_|refine Qds (h:=?_)|refine Qns (h:=?_)|apply jR
 exact Qh rfl (fun a' w' st=>⟨st.kp,congrArg iv (Qo8 n hm)⟩)

theorem Qmj (w:World) (v:Value) (n:Nat) (L:List Int) (hv:WI w v n L) (hn:n≤2000000) (hI:∀ i,I64 (L.getD i 0)) :
  Calls Tryz.prog 44 #[v] w (Ret fun v w'=>Kp [] w w'∧∃ N,New N w w'∧OwnZ N v n L):=by
 have hlen:L.length=n:=by simpa using hv.1
 obtain⟨A0,c0,rfl⟩:=hv.form
 have hv0:=hv
 refine Q9 [] [] spq [] Tryz.func44 rfl mixed (by kernel_rfl) Tryz.ntmps44 Tryz.results44 rfl ⟨by simp,by simp⟩ spq ?_
 simp only[toS,textOps,toSOp,kindAt,kindOf,odAt,sopsAt,ordOf,zipF]
 have hR:RdI ⟨Tryz.prog,19,w,[],by simp⟩ [] (.slice A0 n c0) n L:=hv0.rd rfl []
 repeat' first|apply jS|apply jO|apply jN|apply jT|refine Q1 ?_|refine Q0 ?_|refine Y5 (h:=?_)|apply jB
 refine Qi (ι:=Nat × SHeap × Value) ⟨fun z=>[(8,nv z.1),(7,nv n),(6,.slice A0 n c0),(3,z.2.2),(0,.slice A0 n c0)],fun z=>z.2.1++[],
  fun z=>z.1≤n∧OwnZ z.2.1 z.2.2 z.1 (L.take z.1),fun z=>n-z.1⟩ (0,[],.slice none 0 0) ⟨by omega,by simpa using OwnZ.nil⟩ cqq (HSub.nil _) (fun z hz=>?_)
 obtain⟨k,N,vo⟩:=z
 obtain⟨hk,hO⟩:=hz
 dsimp only at hk hO ⊢
 obtain⟨Ao,co,rfl⟩:=hO.form
 by_cases hkk:k<n
 ·have hIk:=hI k
  repeat' first|apply jS|apply jO|apply jN|apply jT|refine Q1 ?_|refine Q0 ?_|refine Q6h (h:=?_)|refine Qdj (h:=?_)|(refine Qk (h1:=?_) (h2:=?_)<;>intro hc<;>try (exfalso;omega))|apply jK|refine Q8 rfl ?_|apply jB
  refine Q6 pqq rfl rfl rfl (fun w _ _=>YK w (L.getD k 0) hIk.1 hIk.2) fun w v w' _ _ _ hR=>?_
  subst hR
  skip
  refine Yq (sz:=2) (vs:=[Wv (L.getD k 0)]) (cl:=[.bool (wz (L.getD k 0)).1,sv (wz (L.getD k 0)).2]) rfl rfl (by first|rfl|trivial|exact⟨rfl,rfl⟩) rfl rfl (fun v hv=>by
   cases List.mem_singleton.1 hv;rfl) rfl dq dq (fun b=>?_)
  have h1:=Q1h b (L.getD k 0)
  skip
  refine ZC (A:=[_]) (B:=[]) hO h1.rd Q5 rfl pqq rfl rfl rfl rfl oq (fun v' N' hO'=>?_)
  rw[show L.take k++[L.getD k 0]=L.take (k+1) by
   rw[List.take_add_one,YH (d:=0) oq];rfl]at hO'
  repeat' first|apply jO|apply jN|apply jT|refine Q1 ?_|refine Q0 ?_|refine Qg ?_|apply jW
  exact Qa (k+1,N',v') ⟨by dsimp only;omega,hO'⟩ dgq cqq (by exact HSub.skip (HSub.refl _))
 ·repeat' first|apply jS|apply jO|apply jN|apply jT|refine Q1 ?_|refine Q0 ?_|(refine Qk (h1:=?_) (h2:=?_)<;>intro hc<;>try (exfalso;omega))|apply jU|apply jE|apply jR|refine Q4 rfl ?_|refine Qe ?_
  obtain rfl:k=n:=by omega
  rw[← hlen,List.take_length,hlen]at hO
  exact Qh rfl (fun a w' st=>⟨st.kp,N,st.newOf rfl (by simpa using HSub.refl _),hO⟩)

section
variable {c:Cx} {Q:Exit→Act→World→Prop} {m:Mode} {F:SFrame} {H:SHeap} {r:List SOp} {g:Option (Option Tmp × Bool)} {ns:Bool} {d:Tmp} {ty t t':TypeId} {x y:Operand}
theorem Qnz {i j:Int} (hd:dstOk c.n (some d)=true) (hg:guardF F g=some true) (hx:ev F x=some (.int .i64 i)) (hy:ev F y=some (.int .i64 j))
  (h:JO c Q m r ((d,iv (IntKind.i64.wrap (i+j)))::F) H):JO c Q m (⟨some d,.binOp .add t x y t',ty,g,.mov,ns⟩::r) F H :=
 Zi hd hg hx hy (fun w=>by rw[binOp_add];simp[Op.intArith]) h
end

def listE (L:List Int) (n s k:Nat):Int:=if n=0 then 0 else IntKind.i64.wrap (L.getD (k % n) 0+(k / n:Nat)) % (2*(s:Int)+1)-s
def listL (L:List Int) (n s k:Nat):List Int:=(List.range k).map (listE L n s)
theorem Q44 (L:List Int) (n s k:Nat):listL L n s k++[listE L n s k]=listL L n s (k+1):=by
 unfold listL;rw[List.range_succ,List.map_append];rfl
theorem Qed (L:List Int) (n s k:Nat):(listL L n s k).length=k:=by simp[listL]
theorem Qab (L:List Int) (n s k:Nat):(listE L n s k).natAbs≤s:=by
 unfold listE
 split
 ·omega
 ·have h1:=Int.emod_nonneg (IntKind.i64.wrap (L.getD (k % n) 0+(k / n:Nat))) (show (2*(s:Int)+1)≠0 by omega)
  have h2:=Int.emod_lt_of_pos (IntKind.i64.wrap (L.getD (k % n) 0+(k / n:Nat))) (show 0<(2*(s:Int)+1) by omega)
  omega

theorem Qfu (w:World) (v:Value) (n k0 s:Nat) (L:List Int) (hv:WI w v n L) (hn:n<9223372036854775808) (hk0:k0≤1000) (hs0:s≤1000000) :
  Calls Tryz.prog 30 #[v,nv k0,nv s] w (Ret fun v w'=>Kp [] w w'∧∃ N,New N w w'∧OwnZ N v k0 (listL L n s k0)):=by
 have hlen:L.length=n:=by simpa using hv.1
 obtain⟨A0,c0,rfl⟩:=hv.form
 have hv0:=hv
 refine Q9 [⟨7,1,[0,1,2,3,4,5,6,7,8,9,10,11,12,13,14,16,15,17,18],[]⟩] [] spq [] Tryz.func30 rfl mixed (by kernel_rfl) Tryz.ntmps30 Tryz.results30 rfl ⟨by simp,by simp⟩ spq ?_
 simp only[toS,textOps,toSOp,kindAt,kindOf,odAt,sopsAt,ordOf,zipF]
 have hR:RdI ⟨Tryz.prog,42,w,[],by simp⟩ [] (.slice A0 n c0) n L:=hv0.rd rfl []
 repeat' first|apply jS|apply jO|apply jN|apply jT|refine Q0 ?_|apply jB
 refine Qi (ι:=Nat × SHeap × Value) ⟨fun z=>[(8,nv z.1),(7,z.2.2),(0,.slice A0 n c0),(1,nv k0),(2,nv s)],fun z=>z.2.1++[],
  fun z=>z.1≤k0∧OwnZ z.2.1 z.2.2 z.1 (listL L n s z.1),fun z=>k0-z.1⟩ (0,[],.slice none 0 0) ⟨by omega,OwnZ.nil⟩ cqq (HSub.nil _) (fun z hz=>?_)
 obtain⟨k,N,vo⟩:=z
 obtain⟨hk,hO⟩:=hz
 dsimp only at hk hO ⊢
 obtain⟨Ao,co,rfl⟩:=hO.form
 by_cases hkk:k<k0
 ·have hE:=Qab L n s k
  have hEd:listE L n s k=if n=0 then 0 else IntKind.i64.wrap (L.getD (k % n) 0+(k / n:Nat)) % (2*(s:Int)+1)-s:=rfl
  by_cases hn0:n=0
  ·rw[if_pos hn0]at hEd
   repeat' first|apply jS|apply jO|apply jN|apply jT|refine Q1 ?_|refine Q0 ?_|refine Y5 (h:=?_)|(refine Qk (h1:=?_) (h2:=?_)<;>intro hc<;>try (exfalso;omega))|(refine Z3 (h1:=?_) (h2:=?_)<;>intro hc<;>try (exfalso;omega))|apply jK|refine Q8 rfl ?_|refine Q4 rfl ?_|apply jB
   rw[show (0:Int)=listE L n s k from hEd.symm]
   refine Q6 pqq rfl rfl rfl (fun w _ _=>YK w (listE L n s k) oq oq) fun w v w' _ _ _ hR=>?_
   subst hR
   skip
   refine Yq (sz:=2) (vs:=[Wv (listE L n s k)]) (cl:=[.bool (wz (listE L n s k)).1,sv (wz (listE L n s k)).2]) rfl rfl (by first|rfl|trivial|exact⟨rfl,rfl⟩) rfl rfl (fun v hv=>by
    cases List.mem_singleton.1 hv;rfl) rfl dq dq (fun b=>?_)
   have h1:=Q1h b (listE L n s k)
   skip
   refine ZC (A:=[_]) (B:=[]) hO h1.rd Q5 rfl pqq rfl rfl rfl rfl oq (fun v' N' hO'=>?_)
   rw[Q44]at hO'
   repeat' first|apply jO|apply jN|apply jT|refine Q1 ?_|refine Q0 ?_|refine Qg ?_|apply jW
   exact Qa (k+1,N',v') ⟨by dsimp only;omega,hO'⟩ dgq cqq (by exact HSub.skip (HSub.refl _))
  ·rw[if_neg hn0]at hEd
   have hm0:=Nat.mod_lt k (show 0<n by omega)
   have hd0:=Nat.div_le_self k n
   repeat' first|apply jS|apply jO|apply jD|apply jN|apply jT|refine Q1 ?_|refine Q0 ?_|refine Q6h (h:=?_)|refine Qdj (h:=?_)|refine Y5 (h:=?_)|refine Wd (h:=?_)|refine Xy (h:=?_)|(refine Qk (h1:=?_) (h2:=?_)<;>intro hc<;>try (exfalso;omega))|(refine Z3 (h1:=?_) (h2:=?_)<;>intro hc<;>try (exfalso;omega))|apply jK|refine Q8 rfl ?_|apply jB
   refine Qnz (i:=L.getD (k % n) 0) (j:=((k / n:Nat):Int)) rfl rfl rfl rfl ?_
   repeat' first|refine Q1 ?_|refine Qds (h:=?_)|refine Qnq (h:=?_)|fail
   refine Q6 pqq rfl eqq rfl (fun w _ _=>Qfn w (IntKind.i64.wrap (L.getD (k % n) 0+(k / n:Nat))) (2*(s:Int)+1) oq oq) fun w v w' _ _ _ hR=>?_
   subst hR
   have hem1:=Int.emod_nonneg (IntKind.i64.wrap (L.getD (k % n) 0+(k / n:Nat))) (show (2*(s:Int)+1)≠0 by omega)
   have hem2:=Int.emod_lt_of_pos (IntKind.i64.wrap (L.getD (k % n) 0+(k / n:Nat))) (show 0<(2*(s:Int)+1) by omega)
   generalize IntKind.i64.wrap (L.getD (k % n) 0+(k / n:Nat)) % (2*(s:Int)+1)=em at hem1 hem2 hEd ⊢
   repeat' first|apply jO|apply jN|refine Q1 ?_|refine Q0 ?_|refine YM (h:=?_)|apply jT
   rw[← hEd]
   refine Q6 pqq rfl rfl rfl (fun w _ _=>YK w (listE L n s k) oq oq) fun w v w' _ _ _ hR=>?_
   subst hR
   skip
   refine Yq (sz:=2) (vs:=[Wv (listE L n s k)]) (cl:=[.bool (wz (listE L n s k)).1,sv (wz (listE L n s k)).2]) rfl rfl (by first|rfl|trivial|exact⟨rfl,rfl⟩) rfl rfl (fun v hv=>by
    cases List.mem_singleton.1 hv;rfl) rfl dq dq (fun b=>?_)
   have h1:=Q1h b (listE L n s k)
   skip
   refine ZC (A:=[_]) (B:=[]) hO h1.rd Q5 rfl pqq rfl rfl rfl rfl oq (fun v' N' hO'=>?_)
   rw[Q44]at hO'
   repeat' first|apply jO|apply jN|apply jT|refine Q1 ?_|refine Q0 ?_|refine Qg ?_|apply jW
   exact Qa (k+1,N',v') ⟨by dsimp only;omega,hO'⟩ dgq cqq (by exact HSub.skip (HSub.refl _))
 ·repeat' first|apply jS|apply jO|apply jN|apply jT|refine Q1 ?_|refine Q0 ?_|(refine Qk (h1:=?_) (h2:=?_)<;>intro hc<;>try (exfalso;omega))|apply jU|apply jE|apply jR|refine Q4 rfl ?_|refine Qe ?_
  obtain rfl:k=k0:=by omega
  exact Qh rfl (fun a w' st=>⟨st.kp,N,st.newOf rfl (by simpa using HSub.refl _),hO⟩)


theorem Qcm {n B:Nat} {f:Nat→Int} (hn:n≤200) (h:∀ i,(f i).natAbs<256 ^ B):(smI n f).natAbs<256 ^ (B+1):=by
 have h1:=Qcr (n:=n) (f:=f) (B:=256 ^ B) fun i _=>Nat.le_of_lt (h i)
 have h2:=Nat.mul_le_mul_right (256 ^ B) hn
 have h3:=pos256 B
 rw[Nat.pow_succ]
 omega
theorem Q68 {f:Nat→Int} {n:Nat}:tab (n+1) f=tab n f++[f n]:=by simp[tab,List.range_succ]
theorem Qo1 {K L:Nat} {xs ys:List Int} (hx:BdL K xs) (hy:BdL L ys) (k:Nat):(xs.getD k 0*ys.getD k 0).natAbs<256 ^ (K+L):=YF (hx k) (hy k)

theorem Qjm (K L:Nat) (w:World) (v u:Value) (n:Nat) (xs ys:List Int) (hv:WZ w v n xs) (hu:WZ w u n ys) (hn:n≤200) (hK:K+L≤8000000) (hx:BdL K xs) (hy:BdL L ys) :
  Calls Tryz.prog 80 #[v,u] w (Ret fun v w'=>Kp [] w w'∧v=Wv (smI n fun i=>xs.getD i 0*ys.getD i 0)):=by
 obtain⟨A0,c0,rfl⟩:=hv.form
 obtain⟨A1,c1,rfl⟩:=hu.form
 refine Q9 [⟨5,1,[],[]⟩] [] spq [] Tryz.func80 rfl mixed (by kernel_rfl) Tryz.ntmps80 Tryz.results80 rfl ⟨by simp,by simp⟩ spq ?_
 simp only[toS,textOps,toSOp,kindAt,kindOf,odAt,sopsAt,ordOf,zipF]
 have hR:=WZ.rd (c:=⟨Tryz.prog,25,w,[],by simp⟩) hv rfl []
 have hR':=WZ.rd (c:=⟨Tryz.prog,25,w,[],by simp⟩) hu rfl []
 repeat' first|apply jS|apply jO|apply jN|apply jT|refine Q0 ?_|refine Qc fun _=>?_|apply jB
 rename_i b4 b5
 refine Qi (ι:=Nat) ⟨fun z=>[(6,nv z),(5,.pointer (some ⟨b5,0,none⟩)),(4,.pointer (some ⟨b4,0,none⟩)),(0,.slice A0 n c0),(1,.slice A1 n c1)],
  fun z=>[(b5,.cells #[.bool (wz (smI z fun i=>xs.getD i 0*ys.getD i 0)).1,sv (wz (smI z fun i=>xs.getD i 0*ys.getD i 0)).2] 35),(b4,.cells #[.bool false,sv []] 35)],fun z=>z≤n,fun z=>n-z⟩ 0 (Nat.zero_le _) cqq (by simp only[smI,wz_zero];exact HSub.refl _) (fun k hk=>?_)
 dsimp only at hk ⊢
 have hS:=Qcm (n:=k) oq (Qo1 hx hy)
 by_cases hlt:k<n
 ·repeat' first|apply jS|apply jO|apply jD|apply jN|apply jT|refine Q1 ?_|refine Q7 ?_|refine Ze (h:=?_)|refine W7 (h:=?_)|refine ZA (h:=?_)|(refine Qk (h1:=?_) (h2:=?_)<;>intro hc<;>try (exfalso;omega))|apply jK|refine Q8 rfl ?_|apply jB
  refine Q6 pqq rfl eqq rfl (fun w _ _=>Qax w _ _ (xs.getD k 0) (ys.getD k 0) (K+L) (Qf (Y6 (hx k) oq)) (Qf (Y6 (hy k) oq)) oq) fun w v w' _ _ _ hR=>?_
  subst hR
  skip
  refine Q6 pqq rfl eqq rfl (fun w _ _=>Q4i w _ _ (smI k fun i=>xs.getD i 0*ys.getD i 0) (xs.getD k 0*ys.getD k 0) (K+L+1) (Qf hS) (Qf (Y6 (Qo1 hx hy k) oq)) oq) fun w v w' _ _ _ hR=>?_
  subst hR
  rw[show (smI k fun i=>xs.getD i 0*ys.getD i 0)+xs.getD k 0*ys.getD k 0=smI (k+1) fun i=>xs.getD i 0*ys.getD i 0 from rfl]
  repeat' first|apply jO|apply jN|apply jT|refine Q1 ?_|refine Q0 ?_|refine Qg ?_|refine Q2 ?_|refine Q2 ?_|apply jW
  exact Qa (k+1) dgq dgq cqq (HSub.refl _)
 ·repeat' first|apply jS|apply jO|apply jN|apply jT|refine Q1 ?_|refine Q7 ?_|refine ZA (h:=?_)|refine Q2 ?_|(refine Qk (h1:=?_) (h2:=?_)<;>intro hc<;>try (exfalso;omega))|refine Q2 ?_|apply jU|apply jE|apply jR|refine Q4 rfl ?_|refine Qe ?_
  obtain rfl:k=n:=by omega
  exact QG 1 rfl rfl rfl (fun a w' st=>⟨st.kp,rfl⟩)

theorem Qox (w:World) (v:Value) (m:ZM) (j:Nat) (hm:RtZ m) (hj:j<m.c) (hv:IsM w v m) :
  Calls Tryz.prog 29 #[v,nv j] w (Ret fun v w'=>Kp [] w w'∧∃ N,New N w w'∧OwnZ N v m.r (tab m.r fun i=>m.at i j)):=by
 have hle:=hm.le
 have hl:=hm.len
 have hr:=hm.r
 have hc:=hm.c
 obtain⟨E,rfl,hE⟩:=hv
 rw[hl]at hE
 obtain⟨A0,c0,rfl⟩:=hE.form
 refine Q9 [] [] spq [] Tryz.func29 rfl mixed (by kernel_rfl) Tryz.ntmps29 Tryz.results29 rfl ⟨by simp,by simp⟩ spq ?_
 simp only[toS,textOps,toSOp,kindAt,kindOf,odAt,sopsAt,ordOf,zipF]
 have hR:=WZ.rd (c:=⟨Tryz.prog,27,w,[],by simp⟩) hE rfl []
 repeat' first|apply jS|apply jO|apply jN|apply jT|refine Q0 ?_|refine Qt fun _=>?_|apply jB
 rename_i b2
 refine Qi (ι:=Nat × SHeap × Value) ⟨fun z=>[(6,nv z.1),(5,z.2.2),(2,.pointer (some ⟨b2,0,none⟩)),(1,nv j)],fun z=>[(b2,.cells #[nv m.r,nv m.c,.slice A0 (m.r*m.c) c0] 26)]++(z.2.1++[]),
  fun z=>z.1≤m.r∧OwnZ z.2.1 z.2.2 z.1 (tab z.1 fun i=>m.at i j),fun z=>m.r-z.1⟩ (0,[],.slice none 0 0) ⟨by omega,OwnZ.nil⟩ cqq (HSub.refl _) (fun z hz=>?_)
 obtain⟨k,N,vo⟩:=z
 obtain⟨hk,hO⟩:=hz
 dsimp only at hk hO ⊢
 obtain⟨Ao,co,rfl⟩:=hO.form
 by_cases hkk:k<m.r
 ·have hi:=Q1t hkk hj
  have hkc:k*m.c≤40000:=Nat.mul_le_mul (show k≤200 by omega) hc
  repeat' first|apply jS|apply jO|apply jN|apply jT|refine Q1 ?_|refine Q3 ?_|refine Qb ?_|refine Ze (h:=?_)|refine W7 (h:=?_)|refine Z6 (h:=?_)|refine Zy (h:=?_)|(refine Qk (h1:=?_) (h2:=?_)<;>intro hc<;>try (exfalso;omega))|apply jK|refine Q8 rfl ?_|apply jB
  rw[show m.e.getD (k*m.c+j) 0=m.at k j from rfl]
  refine Yq (sz:=2) (vs:=[Wv (m.at k j)]) (cl:=[.bool (wz (m.at k j)).1,sv (wz (m.at k j)).2]) rfl rfl (by first|rfl|trivial|exact⟨rfl,rfl⟩) rfl rfl (fun v hv=>by
   cases List.mem_singleton.1 hv;rfl) rfl dq dq (fun b=>?_)
  have h1:=Q1h b (m.at k j)
  skip
  refine ZC (A:=[_,_]) (B:=[]) hO h1.rd Q5 rfl pqq rfl rfl rfl rfl oq (fun v' N' hO'=>?_)
  rw[← Q68 (f:=fun i=>m.at i j)]at hO'
  repeat' first|apply jO|apply jN|apply jT|refine Q1 ?_|refine Q0 ?_|refine Qg ?_|apply jW
  exact Qa (k+1,N',v') ⟨by dsimp only;omega,hO'⟩ dgq cqq (by exact HSub.skip (HSub.refl _))
 ·repeat' first|apply jS|apply jO|apply jN|apply jT|refine Q1 ?_|refine Q3 ?_|refine Q0 ?_|refine Qb ?_|(refine Qk (h1:=?_) (h2:=?_)<;>intro hc<;>try (exfalso;omega))|apply jU|apply jE|apply jR|refine Q4 rfl ?_|refine Qe ?_
  obtain rfl:k=m.r:=by omega
  exact Qh rfl (fun a w' st=>⟨st.kp,N,st.newOf rfl Q5,hO⟩)

theorem Qfw (K:Nat) (w:World) (v:Value) (n:Nat) (xs:List Int) (hv:WZ w v n xs) (hn:n≤200) (hK:K≤8000000) (hx:BdL K xs) :
  Calls Tryz.prog 67 #[v] w (Ret fun v w'=>Kp [] w w'∧GivesM (colZ xs) w v w'):=by
 have hlen:xs.length=n:=by simpa using hv.len
 obtain⟨A0,c0,rfl⟩:=hv.form
 refine Q9 [⟨5,2,[],[]⟩] [] spq [] Tryz.func67 rfl mixed (by kernel_rfl) Tryz.ntmps67 Tryz.results67 rfl ⟨by simp,by simp⟩ spq ?_
 simp only[toS,textOps,toSOp,kindAt,kindOf,odAt,sopsAt,ordOf,zipF]
 have hR:=WZ.rd (c:=⟨Tryz.prog,25,w,[],by simp⟩) hv rfl []
 repeat' first|apply jS|apply jO|apply jN|refine Q1 ?_|refine ZA (h:=?_)|refine Qc fun _=>?_|apply jT
 rename_i b2
 refine Qd (A:=[_]) (B:=[]) rfl trivial rfl rfl rfl (fun w _ _=>Q39 n 1 hn oq w) fun w v w' _ _ _ hR=>?_
 obtain⟨N,Eo,hN,rfl,hO⟩:=hR
 rw[Nat.mul_one]at hO
 obtain⟨Ao,co,rfl⟩:=hO.form
 refine⟨N,hN,?_⟩
 repeat' first|apply jS|apply jO|apply jN|apply jT|refine Q0 ?_|refine Q2 ?_|refine Qc fun _=>?_|refine Q2 ?_|apply jB
 rename_i b3
 refine Qi (ι:=Nat × SHeap) ⟨fun z=>[(4,nv z.1),(0,.slice A0 n c0),(3,.pointer (some ⟨b3,0,none⟩)),(2,.pointer (some ⟨b2,0,none⟩))],
  fun z=>[(b3,.cells #[nv n,nv 1,.slice Ao n co] 26),(b2,.cells #[iv 0,iv 0,.slice none 0 0] 26)]++(z.2++[]),
  fun z=>z.1≤n∧OwnZ z.2 (.slice Ao n co) n (tab n fun i=>if i<z.1 then xs.getD i 0 else 0),fun z=>n-z.1⟩ (0,N) ⟨by omega,by simpa using hO⟩ cqq Qr (fun k hk=>?_)
 obtain⟨k,N⟩:=k
 obtain⟨hkn,hO⟩:=hk
 dsimp only at hkn hO ⊢
 by_cases hlt:k<n
 ·repeat' first|apply jS|apply jO|apply jD|apply jN|apply jT|refine Q1 ?_|refine Q3 ?_|refine Qb ?_|refine Ze (h:=?_)|refine W7 (h:=?_)|refine ZA (h:=?_)|(refine Qk (h1:=?_) (h2:=?_)<;>intro hc<;>try (exfalso;omega))|refine Zu (h:=?_)|apply jK|refine Q8 rfl ?_|apply jB
  refine Q6 pqq rfl eqq rfl (fun w _ _=>Q4i w _ _ (xs.getD k 0) 0 K (Qf (hx k)) (is0 K) oq) fun w v w' _ _ _ hR=>?_
  subst hR
  repeat' first|refine Ze (h:=?_)|fail
  refine Q13 (A:=[_,_]) hO rfl rfl pqq rfl rfl hlt (fun N' hO'=>?_)
  rw[Q3x]at hO'
  repeat' first|apply jO|apply jN|apply jT|refine Q1 ?_|refine Q0 ?_|refine Qg ?_|apply jW
  exact Qa (k+1,N') ⟨by dsimp only;omega,hO'⟩ dgq cqq Qr
 ·repeat' first|apply jS|apply jO|apply jN|apply jT|refine Q1 ?_|refine Q7 ?_|refine ZA (h:=?_)|refine Q2 ?_|(refine Qk (h1:=?_) (h2:=?_)<;>intro hc<;>try (exfalso;omega))|refine Q2 ?_|apply jU|apply jE|apply jR|refine Q4 rfl ?_|refine Qe ?_
  obtain rfl:k=n:=by omega
  rw[Q6k hlen]at hO
  refine QG 1 rfl rfl rfl (fun a w' st=>⟨st.kp,N,st.newOf rfl Q5,?_⟩)
  rw[← hlen]at hO ⊢
  exact OwnM.mk' hO


section
variable {c:Cx} {Q:Exit→Act→World→Prop} {m:Mode} {F:SFrame} {H:SHeap} {r:List SOp} {g:Option (Option Tmp × Bool)} {ns:Bool} {d:Tmp} {ty t t':TypeId} {x y:Operand}
theorem Q0c {A B N N2:SHeap} {v v2:Value} {n k:Nat} {xs ys:List Int} [TSl c.P t 3] [TE c.P 3 1 8 #[iv 0]] (hO:OwnI N v n xs) (h2:RdI c N2 v2 k ys) (hN2:HSub N2 H) (hH:H=A++(N++B)) (hm:m.mayStore ns r) (hd:dstOk c.n (some d)=true) (hg:guardF F g=some true) (hx:ev F x=some v) (hy:ev F y=some v2)
  (hb:n+k≤10000000000) (h:∀ v' N',OwnI N' v' (n+k) (xs++ys)→JO c Q m.spent r ((d,v')::F) (A++(N'++B))) :
  JO c Q m (⟨some d,.call ⟨.builtin .append,#[x,y],#[t,t]⟩,ty,g,.seq,ns⟩::r) F H :=
 X8 (e:=3) (sz:=1) (bytes:=8) (zc:=#[iv 0]) (xs:=xs.map iv) (news:=ys.map iv) (n:=n) (mm:=k) rfl hO h2 hN2 hH hm hd hg hx hy (fun u hu=>by obtain⟨a,_,rfl⟩:=List.mem_map.1 hu;rfl) (by simp only[maxLen];omega) oq (fun v' N' h'=>h v' N' (by unfold OwnI;rw[List.map_append];exact h'))
theorem Ql4 {A B N N2:SHeap} {v v2 u:Value} {n:Nat} {ss:List Value} [TSl c.P t 48] [TE c.P 48 1 24 #[.slice none 0 0]] (hO:OwnRow 48 1 N v n ss) (h2:Rd c N2 1 v2 1 [u]) (hu:u.oneCell'=true) (hN2:HSub N2 H) (hH:H=A++(N++B)) (hm:m.mayStore ns r) (hd:dstOk c.n (some d)=true) (hg:guardF F g=some true) (hx:ev F x=some v) (hy:ev F y=some v2)
  (hb:n+1≤1000000000) (h:∀ v' N',OwnRow 48 1 N' v' (n+1) (ss++[u])→JO c Q m.spent r ((d,v')::F) (A++(N'++B))) :
  JO c Q m (⟨some d,.call ⟨.builtin .append,#[x,y],#[t,t]⟩,ty,g,.seq,ns⟩::r) F H :=
 X8 (e:=48) (sz:=1) (bytes:=24) (zc:=#[.slice none 0 0]) (n:=n) (mm:=1) rfl hO h2 hN2 hH hm hd hg hx hy (fun w hw=>by cases List.mem_singleton.1 hw;exact hu) (by simp only[maxLen];omega) oq h
end
theorem Qo4 (b:Nat) (u:Value):OwnRow 48 1 [(b,.cells ⟨[u]⟩ 48)] (.slice (some ⟨b,0,none⟩) 1 1) 1 [u] :=
 OwnRow.mk' (e:=48) (sz:=1) (n:=1) (b:=b) (cs:=⟨[u]⟩) spq (by simp only[maxLen];omega)
theorem Q3z (b:Nat) (u:Int):OwnI [(b,.cells ⟨[iv u]⟩ 3)] (.slice (some ⟨b,0,none⟩) 1 1) 1 [u] :=
 OwnRow.mk' (e:=3) (sz:=1) (n:=1) (b:=b) (cs:=⟨[iv u]⟩) spq (by simp only[maxLen];omega)
theorem OwnRow.form4 {e:TypeId} {sz n:Nat} {N:SHeap} {v:Value} {cs:List Value} (h:OwnRow e sz N v n cs):∃ A cap,v=.slice A n cap:=by
 obtain⟨_,⟨rfl,rfl,rfl⟩|⟨b,cap,cur,rfl,_⟩⟩:=h
 ·exact⟨_,_,rfl⟩
 ·exact⟨_,_,rfl⟩

def smE (X:List (List Int)) (f:Int) (i j:Nat):Int:=if (i+j) % 2=0 then ((X.getD i []).getD j 0 % 13-6)*(1+f % 3) else (X.getD i []).getD j 0 % 13-6
def smRow (X:List (List Int)) (f:Int) (i k:Nat):List Int:=tab k (smE X f i)
def smN (X:List (List Int)) (i:Nat):Nat:=min (X.getD i []).length 5
def smX (X:List (List Int)) (f:Int):List (List Int):=tab (min X.length 5) fun i=>smRow X f i (smN X i)
theorem Q3p (X:List (List Int)) (f:Int) (i k:Nat):smRow X f i (k+1)=smRow X f i k++[smE X f i k]:=Q68
theorem Qne (X:List (List Int)) (f:Int) (i j:Nat):(smE X f i j).natAbs≤18:=by
 unfold smE
 generalize (X.getD i []).getD j 0=e
 have h1:=Int.emod_nonneg e (show (13:Int)≠0 by decide)
 have h2:=Int.emod_lt_of_pos e (show (0:Int)<13 by decide)
 have h3:=Int.emod_nonneg f (show (3:Int)≠0 by decide)
 have h4:=Int.emod_lt_of_pos f (show (0:Int)<3 by decide)
 generalize e % 13=a at h1 h2 ⊢
 generalize f % 3=b at h3 h4 ⊢
 split
 ·rcases(show b=0∨b=1∨b=2 by omega)with rfl|rfl|rfl<;>omega
 ·omega
theorem Q08 (X:List (List Int)) (f:Int):(smX X f).length=min X.length 5:=by simp[smX]
theorem Q4u {X:List (List Int)} {f:Int} {i:Nat} (h:i<min X.length 5):(smX X f).getD i []=smRow X f i (smN X i):=ZG h
theorem Q7z {X:List (List Int)} {f:Int} {i:Nat} (h:¬i<min X.length 5):(smX X f).getD i []=[]:=by
 rw[List.getD,List.getElem?_eq_none (by rw[Q08];omega)];rfl
theorem Qcn (X:List (List Int)) (f:Int) (i:Nat):((smX X f).getD i []).length≤5:=by
 by_cases h:i<min X.length 5
 ·rw[Q4u h];simp only[smRow,Xj,smN];omega
 ·rw[Q7z h];exact Nat.zero_le _
theorem Qj1 (X:List (List Int)) (f:Int) (i j:Nat):(((smX X f).getD i []).getD j 0).natAbs≤18:=by
 by_cases h:i<min X.length 5
 ·rw[Q4u h]
  unfold smRow
  by_cases hj:j<smN X i
  ·rw[ZG hj];exact Qne X f i j
  ·rw[List.getD,List.getElem?_eq_none (by rw[Xj];omega)];exact Nat.zero_le _
 ·rw[Q7z h];exact Nat.zero_le _
theorem Qkg (X:List (List Int)) (f:Int) (i j:Nat):I64 (((smX X f).getD i []).getD j 0):=by
 have:=Qj1 X f i j
 unfold I64
 omega
theorem Qnd {X:List (List Int)} {f:Int} {w:World} {v:Value} {k:Nat} {ss:List Value} (hk:k=min X.length 5) (h:RdW w 1 v k ss) (hr:∀ i,i<k→WI w (ss.getD i (iv 0)) (smN X i) (smRow X f i (smN X i))):IsRows w v (smX X f) :=
 ⟨ss, by rw [Q08, ← hk]; exact h, fun i hi => by
  rw[Q08, ← hk]at hi
  rw[Q4u oq,show (smRow X f i (smN X i)).length=smN X i from Xj _ _]
  exact hr i hi⟩

theorem Qav (w:World) (v:Value) (X:List (List Int)) (f:Int) (hv:IsRows w v X) (hX:X.length<9223372036854775808) (hl:∀ i,i<X.length→(X.getD i []).length<9223372036854775808) :
  Calls Tryz.prog 14 #[v,iv f] w (Ret fun v w'=>Kp [] w w'∧GivesM (ofZ (smX X f)) w v w'):=by
 obtain⟨ss,hs1,hs2⟩:=hv
 obtain⟨A0,c0,rfl⟩:∃ A c,v=.slice A X.length c:=by obtain⟨_,A,c,h,_⟩:=hs1;exact⟨A,c,h⟩
 have hsl:ss.length=X.length:=by have:=hs1.1;omega
 refine Q9 [] [] spq [] Tryz.func14 rfl mixed (by kernel_rfl) Tryz.ntmps14 Tryz.results14 rfl ⟨by simp,by simp⟩ spq ?_
 simp only[toS,textOps,toSOp,kindAt,kindOf,odAt,sopsAt,ordOf,zipF]
 have hRa:Rd ⟨Tryz.prog,62,w,[],by simp⟩ [] 1 (.slice A0 X.length c0) X.length ss:=hs1.rd rfl []
 have hRr:∀ i,i<X.length→RdI ⟨Tryz.prog,62,w,[],by simp⟩ [] (ss.getD i (iv 0)) (X.getD i []).length (X.getD i []):=fun i hi=>(hs2 i hi).rd rfl []
 repeat' first|apply jS|apply jO|apply jN|apply jT|refine Q0 ?_|refine Qc fun _=>?_|apply jB
 rename_i b4
 refine Qi (ι:=Nat × SHeap × SHeap × Value × List Value) ⟨fun z=>[(6,nv z.1),(5,z.2.2.2.1),(4,.pointer (some ⟨b4,0,none⟩)),(0,.slice A0 X.length c0),(1,iv f)],fun z=>[(b4,.cells #[iv 0,iv 0,.slice none 0 0] 26)]++(z.2.1++(z.2.2.1++[])),
  fun z=>z.1≤5∧z.1≤X.length∧OwnRow 48 1 z.2.1 z.2.2.2.1 z.1 z.2.2.2.2∧∀ i,i<z.1→RdI ⟨Tryz.prog,62,w,[],by simp⟩ z.2.2.1 (z.2.2.2.2.getD i (iv 0)) (smN X i) (smRow X f i (smN X i)),fun z=>5-z.1⟩ (0,[],[],.slice none 0 0,[]) ⟨by dsimp only;omega,by dsimp only;omega,OwnRow.nil _ 1,fun i hi=>absurd hi (Nat.not_lt_zero _)⟩ cqq (HSub.refl _) (fun z hz=>?_)
 obtain⟨k,N,R,vl,sl⟩:=z
 obtain⟨hk5,hkX,hO,hsr⟩:=hz
 dsimp only at hk5 hkX hO hsr ⊢
 obtain⟨Al,cl,rfl⟩:=hO.form4
 by_cases hkk:k<X.length∧k<5
 ·obtain⟨hkk,hk5b⟩:=hkk
  have hlk:=hl k hkk
  obtain⟨Ar,cr,hAr⟩:∃ A c,ss.getD k (iv 0)=.slice A (X.getD k []).length c:=by obtain⟨_,A,c,h,_⟩:=hRr k hkk;exact⟨A,c,h⟩
  have hRk:=hRr k hkk
  rw[hAr]at hRk
  have hss:ss[k]?=some (.slice Ar (X.getD k []).length cr):=by rw[← hAr];exact YH oq
  repeat' first|apply jS|apply jO|apply jN|apply jT|refine Q1 ?_|refine Q0 ?_|refine Y5 (h:=?_)|refine Ql ?_|(refine Qk (h1:=?_) (h2:=?_)<;>intro hc<;>try (exfalso;omega))|apply jK|refine Q8 rfl ?_|apply jB
  refine Qi (ι:=Nat × SHeap × Value) ⟨fun z=>[(8,nv z.1),(7,z.2.2),(6,nv k),(5,.slice Al k cl),(4,.pointer (some ⟨b4,0,none⟩)),(0,.slice A0 X.length c0),(1,iv f)],fun z=>[(b4,.cells #[iv 0,iv 0,.slice none 0 0] 26)]++(z.2.1++(N++(R++[]))),
   fun z=>z.1≤5∧z.1≤(X.getD k []).length∧OwnI z.2.1 z.2.2 z.1 (smRow X f k z.1),fun z=>5-z.1⟩ (0,[],.slice none 0 0) ⟨by dsimp only;omega,by dsimp only;omega,OwnI.nil⟩ cqq (HSub.refl _) (fun z hz=>?_)
  obtain⟨j,Nr,vr⟩:=z
  obtain⟨hj5,hjX,hOr⟩:=hz
  dsimp only at hj5 hjX hOr ⊢
  obtain⟨Aw,cw,rfl⟩:=hOr.form
  repeat' first|apply jS|refine Q1 ?_|apply jO
  refine Y0 rfl rfl rfl rfl hRa hkk ?_
  skip
  refine WD rfl rfl rfl rfl hRa (HSub.nil _) hss ?_
  by_cases hjj:j<(X.getD k []).length∧j<5
  ·obtain⟨hjj,hj5b⟩:=hjj
   repeat' first|apply jS|apply jO|apply jN|apply jT|refine Q1 ?_|refine Y5 (h:=?_)|refine Ql ?_|(refine Qk (h1:=?_) (h2:=?_)<;>intro hc<;>try (exfalso;omega))|apply jK|refine Q8 rfl ?_|apply jB
   refine Y0 rfl rfl rfl rfl hRa hkk ?_
   skip
   refine WD rfl rfl rfl rfl hRa (HSub.nil _) hss ?_
   repeat' first|refine Q1 ?_|refine Q6h (h:=?_)|refine Qdj (h:=?_)|fail
   refine Q6 pqq rfl eqq rfl (fun w _ _=>Qfn w ((X.getD k []).getD j 0) 13 oq oq) fun w v w' _ _ _ hR=>?_
   subst hR
   have hm1:=Int.emod_nonneg ((X.getD k []).getD j 0) (show (13:Int)≠0 by decide)
   have hm2:=Int.emod_lt_of_pos ((X.getD k []).getD j 0) (show (0:Int)<13 by decide)
   have hE:smE X f k j=if (k+j) % 2=0 then ((X.getD k []).getD j 0 % 13-6)*(1+f % 3) else (X.getD k []).getD j 0 % 13-6:=rfl
   generalize (X.getD k []).getD j 0 % 13=e0 at hm1 hm2 hE ⊢
   have hf1:=Int.emod_nonneg f (show (3:Int)≠0 by decide)
   have hf2:=Int.emod_lt_of_pos f (show (0:Int)<3 by decide)
   have hte:(((k+j:Nat):Int).tmod 2)=(((k+j) % 2:Nat):Int):=(Int.ofNat_tmod (k+j) 2).symm
   repeat' first|apply jS|apply jO|apply jN|apply jT|refine Q1 ?_|refine Q0 ?_|refine Z6 (h:=?_)|refine YM (h:=?_)|refine Qns (h:=?_)|(refine QU (h1:=?_) (h2:=?_)<;>intro hc<;>try (exfalso;omega))|refine QA (h:=fun _=>?_)|apply jK|refine Q8 rfl ?_|refine Q4 rfl ?_
   ·rw[if_pos oq]at hE
    refine Q6 pqq rfl eqq rfl (fun w _ _=>Qfn w f 3 oq oq) fun w v w' _ _ _ hR=>?_
    subst hR
    generalize f % 3=f3 at hf1 hf2 hE ⊢
    have hb1 : -18≤(e0-6)*(1+f3)∧(e0-6)*(1+f3)≤18:=by
     rcases(show f3=0∨f3=1∨f3=2 by omega)with rfl|rfl|rfl<;>omega
    repeat' first|apply jO|apply jN|refine Q1 ?_|refine Q0 ?_|refine Qds (h:=?_)|refine Qnq (h:=?_)|refine QA (h:=fun _=>?_)|apply jT
    rename_i b54
    refine Q0c (A:=[_,_]) (B:=N++(R++[])) hOr (Q3z b54 _).rd (HSub.at 0 rfl (HSub.nil _)) rfl pqq rfl rfl rfl rfl oq (fun v' N' hO'=>?_)
    rw[← hE, ← Q3p]at hO'
    repeat' first|apply jO|apply jN|apply jT|refine Q1 ?_|refine Q0 ?_|refine Qg ?_|apply jW
    exact Qa (j+1,N',v') ⟨by dsimp only;omega,by dsimp only;omega,hO'⟩ dgq cqq (HSub.skip (HSub.refl _))
   ·rw[if_neg oq]at hE
    rename_i b54
    refine Q0c (A:=[_,_]) (B:=N++(R++[])) hOr (Q3z b54 _).rd (HSub.at 0 rfl (HSub.nil _)) rfl pqq rfl rfl rfl rfl oq (fun v' N' hO'=>?_)
    rw[← hE, ← Q3p]at hO'
    repeat' first|apply jO|apply jN|apply jT|refine Q1 ?_|refine Q0 ?_|refine Qg ?_|apply jW
    exact Qa (j+1,N',v') ⟨by dsimp only;omega,by dsimp only;omega,hO'⟩ dgq cqq (HSub.skip (HSub.refl _))
  ·repeat' first|apply jO|apply jN|apply jT|refine Q1 ?_|refine Y5 (h:=?_)|refine Ql ?_|refine Qx (h:=?_)|(refine Qk (h1:=?_) (h2:=?_)<;>intro hc<;>try (exfalso;omega))|refine QA (h:=fun _=>?_)|apply jU|refine Q4 rfl ?_|refine Qe ?_|refine QJ (h:=?_)|apply jE
   all_goals
    rename_i b58
    refine Ql4 (A:=(b58,.cells ⟨[Value.slice Aw j cw]⟩ 48)::(b4,.cells #[iv 0,iv 0,.slice none 0 0] 26)::Nr) (B:=R++[]) hO (Qo4 b58 (Value.slice Aw j cw)).rd rfl (HSub.at 0 rfl (HSub.nil _)) rfl pqq rfl rfl rfl rfl oq (fun v' N' hO'=>?_)
    have hsr':∀ i,i<k+1→RdI ⟨Tryz.prog,62,w,[],by simp⟩ (Nr++R) ((sl++[(Value.slice Aw j cw)]).getD i (iv 0)) (smN X i) (smRow X f i (smN X i)):=fun i hi=>by
     have hl0:sl.length=k:=by have:=hO.1;omega
     rcases Nat.lt_or_ge i k with h|h
     ·rw[List.getD,List.getElem?_append_left oq];exact Rd.up (hsr i h) (Qj (HSub.refl _))
     ·obtain rfl:i=k:=by omega
      have hjn:j=smN X i:=by unfold smN;omega
      rw[List.getD,List.getElem?_append_right oq,hl0,Nat.sub_self, ← hjn];exact Rd.up hOr.rd Qv
    repeat' first|apply jO|apply jN|apply jT|refine Q1 ?_|refine Q0 ?_|refine Qg ?_|apply jW
    exact Qa (k+1,N',Nr++R,v',sl++[(Value.slice Aw j cw)]) ⟨by dsimp only;omega,by dsimp only;omega,hO',hsr'⟩ dgq cqq (HSub.skip (HSub.at 0 rfl (by simp only[List.append_nil];exact Qis (A:=Nr) (N:=N') (B:=R) (HSub.refl _))))
 ·have hkm:k=min X.length 5:=by omega
  repeat' first|apply jS|apply jO|apply jN|apply jT|refine Q1 ?_|refine Y5 (h:=?_)|refine Ql ?_|refine Qx (h:=?_)|(refine Qk (h1:=?_) (h2:=?_)<;>intro hc<;>try (exfalso;omega))|apply jU|refine Q4 rfl ?_|refine Qe ?_|refine QJ (h:=?_)|apply jE
  all_goals
   refine Qd (A:=[(b4,.cells #[iv 0,iv 0,.slice none 0 0] 26)]) (B:=N++(R++[])) rfl pqq rfl eqq rfl (fun w hk hs=>Qfk w (.slice Al k cl) (smX X f) (Qnd hkm (Rd.at hO.rd hk hs Q5) fun i hi=>RdI.at (hsr i hi) hk hs Q5) (by rw[Q08];omega) (Nat.le_trans (Qa7 _ (Qcn X f) _) oq) (Qkg X f)) fun w v w' _ _ _ hR=>?_
   obtain⟨N1,hN1,hO1⟩:=hR
   obtain⟨Eo,rfl,hO1⟩:=hO1
   obtain⟨Ao,co,rfl⟩:=hO1.form
   refine⟨N1,hN1,?_⟩
   repeat' first|apply jN|apply jT|refine Q2 ?_|refine Q2 ?_|apply jR
   exact QG 0 rfl rfl rfl (fun a w' st=>⟨st.kp,N1,st.newOf rfl (HSub.skip Qv),_,rfl,hO1⟩)


def rowS (m:ZM) (xs:List Int) (i k:Nat):Int:=smI k fun j=>m.at i j*xs.getD j 0
def SolP (m:ZM) (xs bs:List Int):Prop:=xs.length=m.c∧bs.length=m.r∧∀ i,i<m.r→rowS m xs i m.c=bs.getD i 0

theorem Qoq (K L:Nat) (w:World) (v u z:Value) (m:ZM) (xs bs:List Int) (hm:RtZ m) (hv:IsM w v m) (hu:WZ w u xs.length xs) (hz:WZ w z bs.length bs) (hl1:xs.length≤2000000) (hl2:bs.length≤2000000) (hK:K+L≤8000000) (hx:BdZ K m) (hy:BdL L xs) (hy2:BdL L bs) :
  Calls Tryz.prog 41 #[v,u,z] w (Ret fun v w'=>Kp [] w w'∧IsB (SolP m xs bs) v):=by
 have hvX:=hv.x
 have hle:=hm.le
 have hl:=hm.len
 have hr:=hm.r
 have hcm:=hm.c
 obtain⟨E,rfl,hE⟩:=hv
 rw[hl]at hE
 obtain⟨A0,c0,rfl⟩:=hE.form
 obtain⟨A1,c1,rfl⟩:=hu.form
 obtain⟨A2,c2,rfl⟩:=hz.form
 refine Q9 [⟨11,1,[],[]⟩] [] spq [] Tryz.func41 rfl mixed (by kernel_rfl) Tryz.ntmps41 Tryz.results41 rfl ⟨by simp,by simp⟩ spq ?_
 simp only[toS,textOps,toSOp,kindAt,kindOf,odAt,sopsAt,ordOf,zipF]
 have hR:=WZ.rd (c:=⟨Tryz.prog,65,w,[],by simp⟩) hE rfl []
 have hR1:=WZ.rd (c:=⟨Tryz.prog,65,w,[],by simp⟩) hu rfl []
 have hR2:=WZ.rd (c:=⟨Tryz.prog,65,w,[],by simp⟩) hz rfl []
 repeat' first|apply jS|apply jO|apply jN|refine Q0 ?_|refine Q7 ?_|refine Qt fun _=>?_|apply jT
 rename_i b3
 refine Q6 trivial rfl rfl rfl (fun w hk _=>Zs w _ m.xm (hvX.mono hk) (Q1u hm)) fun w v w' _ _ _ hR=>?_
 obtain⟨b',rfl,hb⟩:=hR
 obtain rfl:=hb.2 hm.rx
 by_cases hd:xs.length=m.c∧bs.length=m.r
 ·obtain⟨hd1,hd2⟩:=hd
  repeat' first|apply jS|apply jO|apply jN|apply jT|refine Q1 ?_|refine Q3 ?_|refine Q0 ?_|refine Qb ?_|refine ZA (h:=?_)|refine Qx (h:=?_)|refine QP (h:=?_)|(refine Z5 (h1:=?_) (h2:=?_)<;>intro hc<;>try (exfalso;omega))|apply jK|refine Q4 rfl ?_|apply jB
  all_goals first
   | (exfalso;omega)
   | skip
  refine Qi (ι:=Nat) ⟨fun z=>[(8,nv z),(6,.bool false),(1,.slice A1 xs.length c1),(2,.slice A2 bs.length c2),(3,.pointer (some ⟨b3,0,none⟩))],fun z=>[(b3,.cells #[nv m.r,nv m.c,.slice A0 (m.r*m.c) c0] 26)],
   fun z=>z≤m.r∧∀ a,a<z→rowS m xs a m.c=bs.getD a 0,fun z=>m.r-z⟩ 0 ⟨Nat.zero_le _,fun a h=>absurd h (Nat.not_lt_zero _)⟩ cqq (HSub.refl _) (fun i hi=>?_)
  obtain⟨hir,hrows⟩:=hi
  dsimp only at hir hrows ⊢
  by_cases hii:i<m.r
  ·repeat' first|apply jS|apply jO|apply jN|apply jT|refine Q1 ?_|refine Q3 ?_|refine Q0 ?_|refine Qb ?_|(refine Qk (h1:=?_) (h2:=?_)<;>intro hc<;>try (exfalso;omega))|refine Qc fun _=>?_|apply jK|refine Q8 rfl ?_|apply jB
   rename_i b9
   refine Qi (ι:=Nat) ⟨fun z=>[(10,nv z),(9,.pointer (some ⟨b9,0,none⟩)),(8,nv i),(6,.bool false),(1,.slice A1 xs.length c1),(2,.slice A2 bs.length c2),(3,.pointer (some ⟨b3,0,none⟩))],fun z=>[(b9,.cells #[.bool (wz (rowS m xs i z)).1,sv (wz (rowS m xs i z)).2] 35),(b3,.cells #[nv m.r,nv m.c,.slice A0 (m.r*m.c) c0] 26)],
    fun z=>z≤m.c,fun z=>m.c-z⟩ 0 (Nat.zero_le _) cqq (by simp only[rowS,smI,wz_zero];exact HSub.refl _) (fun j hj=>?_)
   dsimp only at hj ⊢
   have hS:(rowS m xs i j).natAbs<256 ^ (K+L+1):=Qcm oq fun a=>YF (hx.at i a) (hy a)
   by_cases hjj:j<m.c
   ·have hi2:=Q1t hii hjj
    have hkc:i*m.c≤40000:=Nat.mul_le_mul (show i≤200 by omega) hcm
    repeat' first|apply jS|apply jO|apply jD|apply jN|apply jT|refine Q1 ?_|refine Q3 ?_|refine Qb ?_|refine Q7 ?_|refine Ze (h:=?_)|refine W7 (h:=?_)|refine Z6 (h:=?_)|refine Zy (h:=?_)|(refine Qk (h1:=?_) (h2:=?_)<;>intro hc<;>try (exfalso;omega))|apply jK|refine Q8 rfl ?_|apply jB
    rw[show m.e.getD (i*m.c+j) 0=m.at i j from rfl]
    refine Q6 pqq rfl eqq rfl (fun w _ _=>Qax w _ _ (m.at i j) (xs.getD j 0) (K+L) (Qf (Y6 (hx.at i j) oq)) (Qf (Y6 (hy j) oq)) oq) fun w v w' _ _ _ hR=>?_
    subst hR
    skip
    refine Q6 pqq rfl eqq rfl (fun w _ _=>Q4i w _ _ (rowS m xs i j) (m.at i j*xs.getD j 0) (K+L+1) (Qf hS) (Qf (Y6 (YF (hx.at i j) (hy j)) oq)) oq) fun w v w' _ _ _ hR=>?_
    subst hR
    rw[show rowS m xs i j+m.at i j*xs.getD j 0=rowS m xs i (j+1) from rfl]
    repeat' first|apply jO|apply jN|apply jT|refine Q1 ?_|refine Q0 ?_|refine Qg ?_|refine Q2 ?_|refine Q2 ?_|apply jW
    exact Qa (j+1) dgq dgq cqq (HSub.refl _)
   ·obtain rfl:j=m.c:=by omega
    repeat' first|apply jS|apply jO|apply jD|apply jN|apply jT|refine Q1 ?_|refine Q3 ?_|refine Qb ?_|refine Q7 ?_|refine Ze (h:=?_)|refine W7 (h:=?_)|(refine Qk (h1:=?_) (h2:=?_)<;>intro hc<;>try (exfalso;omega))|apply jU|apply jE|refine Q4 rfl ?_|refine Qe ?_
    refine Q6 pqq rfl eqq rfl (fun w _ _=>Qfx w _ _ (rowS m xs i m.c) (bs.getD i 0) (K+L+1) (Qf hS) (Qf (Y6 (hy2 i) oq)) oq) fun w v w' _ _ _ hR=>?_
    subst hR
    repeat' first|apply jS|apply jO|apply jN|apply jT|refine Q1 ?_|refine Q0 ?_|refine Qg ?_|(refine Z5 (h1:=?_) (h2:=?_)<;>intro hc<;>try (exfalso;omega))|apply jV|apply jK|apply jR|refine Q8 rfl ?_|refine Q4 rfl ?_|apply jW|refine QH ?_
    ·exact Qh rfl (fun a w' st=>⟨st.kp,IsB.f (fun h=>hc (by rw[h.2.2 i hii,Int.sub_self];rfl))⟩)
    ·have he:rowS m xs i m.c=bs.getD i 0:=by have:=Int.sign_eq_zero_iff_zero.1 hc;omega
     exact Qa (i+1) ⟨by first|omega|(dsimp only;omega),fun a ha=>by
      rcases Nat.lt_or_ge a i with h|h
      ·exact hrows a h
      ·obtain rfl:a=i:=by omega
       exact he⟩ dgp cqq (HSub.skip (HSub.refl _))
  ·repeat' first|apply jS|apply jO|apply jN|apply jT|refine Q1 ?_|refine Q3 ?_|refine Q0 ?_|refine Qb ?_|(refine Qk (h1:=?_) (h2:=?_)<;>intro hc<;>try (exfalso;omega))|apply jU|apply jE|apply jR|refine Q4 rfl ?_|refine Qe ?_
   exact Qh rfl (fun a w' st=>⟨st.kp,IsB.t ⟨hd1,hd2,fun i hi=>hrows i oq⟩⟩)
 ·repeat' first|apply jS|apply jO|apply jN|apply jT|refine Q1 ?_|refine Q3 ?_|refine Q0 ?_|refine Qb ?_|refine ZA (h:=?_)|refine Ql ?_|refine Qx (h:=?_)|refine QP (h:=?_)|(refine Z5 (h1:=?_) (h2:=?_)<;>intro hc<;>try (exfalso;omega))|apply jV|refine Q8 rfl ?_|refine QJ (h:=?_)|apply jR
  all_goals first
   | (exfalso;omega)
   | exact Qh rfl (fun a w' st=>⟨st.kp,IsB.f (fun h=>hd ⟨h.1,h.2.1⟩)⟩)

theorem Q1p (K:Nat) (w:World) (v u:Value) (xs ys:List Int) (hv:WZ w v xs.length xs) (hu:WZ w u ys.length ys) (hn:xs.length≤2000000) (hk:ys.length≤2000000) (hK:K≤8000000) (hx:BdL K xs) (hy:BdL K ys) :
  Calls Tryz.prog 25 #[v,u] w (Ret fun v w'=>Kp [] w w'∧IsB (xs=ys) v):=by
 obtain⟨A0,c0,rfl⟩:=hv.form
 obtain⟨A1,c1,rfl⟩:=hu.form
 refine Q9 [] [] spq [] Tryz.func25 rfl mixed (by kernel_rfl) Tryz.ntmps25 Tryz.results25 rfl ⟨by simp,by simp⟩ spq ?_
 simp only[toS,textOps,toSOp,kindAt,kindOf,odAt,sopsAt,ordOf,zipF]
 have hR:=WZ.rd (c:=⟨Tryz.prog,27,w,[],by simp⟩) hv rfl []
 have hR1:=WZ.rd (c:=⟨Tryz.prog,27,w,[],by simp⟩) hu rfl []
 by_cases hd:xs.length=ys.length
 ·repeat' first|apply jS|apply jO|apply jN|apply jT|refine Q1 ?_|refine Q0 ?_|refine ZA (h:=?_)|(refine Z5 (h1:=?_) (h2:=?_)<;>intro hc<;>try (exfalso;omega))|apply jK|refine Q4 rfl ?_|apply jB
  all_goals first
   | (exfalso;omega)
   | skip
  refine Qi (ι:=Nat) ⟨fun i=>[(5,nv i),(0,.slice A0 xs.length c0),(1,.slice A1 ys.length c1)],fun _=>[],fun i=>i≤xs.length∧∀ j,j<i→xs.getD j 0=ys.getD j 0,fun i=>xs.length-i⟩ 0 ⟨by omega,fun j h=>by omega⟩ cqq (HSub.nil _) (fun i hi=>?_)
  obtain⟨hin,hpr⟩:=hi
  dsimp only at hin hpr ⊢
  by_cases hlt:i<xs.length
  ·repeat' first|apply jS|apply jO|apply jD|apply jN|apply jT|refine Q1 ?_|refine Ze (h:=?_)|refine W7 (h:=?_)|refine ZA (h:=?_)|(refine Qk (h1:=?_) (h2:=?_)<;>intro hc<;>try (exfalso;omega))|apply jK|refine Q8 rfl ?_|apply jB
   refine Q6 pqq rfl eqq rfl (fun w _ _=>Qfx w _ _ (xs.getD i 0) (ys.getD i 0) K (Qf (hx i)) (Qf (hy i)) oq) fun w v w' _ _ _ hR=>?_
   subst hR
   repeat' first|apply jS|apply jO|apply jN|apply jT|refine Q1 ?_|refine Q0 ?_|refine Qg ?_|(refine Z5 (h1:=?_) (h2:=?_)<;>intro hc<;>try (exfalso;omega))|apply jV|apply jK|apply jR|refine Q8 rfl ?_|refine Q4 rfl ?_|apply jW|refine QH ?_
   ·exact Qh rfl (fun a w' st=>⟨st.kp,IsB.f (fun h=>hc (by rw[h,Int.sub_self];rfl))⟩)
   ·have he:xs.getD i 0=ys.getD i 0:=by have:=Int.sign_eq_zero_iff_zero.1 hc;omega
    exact Qa (i+1) ⟨by first|omega|(dsimp only;omega),fun a ha=>by
     rcases Nat.lt_or_ge a i with h|h
     ·exact hpr a h
     ·obtain rfl:a=i:=by omega
      exact he⟩ dgp cqq (HSub.nil _)
  ·repeat' first|apply jS|apply jO|apply jN|apply jT|refine Q1 ?_|refine Q0 ?_|refine ZA (h:=?_)|(refine Qk (h1:=?_) (h2:=?_)<;>intro hc<;>try (exfalso;omega))|apply jU|apply jE|apply jR|refine Q4 rfl ?_|refine Qe ?_
   exact Qh rfl (fun a w' st=>⟨st.kp,IsB.t (Q5j (d:=0) oq (fun j hj=>hpr j oq))⟩)
 ·repeat' first|apply jS|apply jO|apply jN|apply jT|refine Q1 ?_|refine Q0 ?_|refine ZA (h:=?_)|(refine Z5 (h1:=?_) (h2:=?_)<;>intro hc<;>try (exfalso;omega))|apply jV|apply jR|refine Q8 rfl ?_
  all_goals first
   | (exfalso;omega)
   | exact Qh rfl (fun a w' st=>⟨st.kp,IsB.f (fun h=>hd (by rw[h]))⟩)

def colS (m:ZM) (y:List Int) (j k:Nat):Int:=smI k fun i=>y.getD i 0*m.at i j
def dotS (y b:List Int) (k:Nat):Int:=smI k fun i=>y.getD i 0*b.getD i 0
def RefP (m:ZM) (b y:List Int) (d:Int):Prop:=b.length=m.r∧y.length=m.r∧0≤d∧(∀ j,j<m.c→d∣colS m y j m.r)∧¬d∣dotS y b m.r
theorem Q09 {f g:Nat→Int}:∀ {n:Nat},(∀ i,i<n→f i=g i)→smI n f=smI n g
 | 0,_=>rfl
 | n+1,h=>by rw[smI,smI,Q09 fun i hi=>h i oq,h n oq]
theorem Q9d {a:Int}:a.sign<0↔a<0:=Int.sign_neg_iff

theorem Qji (K L:Nat) (w:World) (v u z t:Value) (m:ZM) (bs ys:List Int) (d:Int) (hm:RtZ m) (hv:IsM w v m) (hu:WZ w u bs.length bs) (hz:WZ w z ys.length ys) (ht:IsZ t d (K+L+1)) (hl1:bs.length≤2000000) (hl2:ys.length≤2000000) (hK:K+L≤8000000) (hx:BdZ K m) (hy:BdL K bs) (hy2:BdL L ys) :
  Calls Tryz.prog 42 #[v,u,z,t] w (Ret fun v w'=>Kp [] w w'∧IsB (RefP m bs ys d) v):=by
 have hv0:=hv
 have ht0:=ht
 have hvX:=hv.x
 have hle:=hm.le
 have hl:=hm.len
 have hr:=hm.r
 have hcm:=hm.c
 obtain⟨E,rfl,hE⟩:=hv
 rw[hl]at hE
 obtain⟨A0,c0,rfl⟩:=hE.form
 obtain⟨A1,c1,rfl⟩:=hu.form
 obtain⟨A2,c2,rfl⟩:=hz.form
 obtain⟨p,l,rfl,hl3,hd3⟩:=ht
 refine Q9 [⟨7,1,[],[]⟩,⟨10,1,[],[]⟩] [] spq [] Tryz.func42 rfl mixed (by kernel_rfl) Tryz.ntmps42 Tryz.results42 rfl ⟨by simp,by simp⟩ spq ?_
 simp only[toS,textOps,toSOp,kindAt,kindOf,odAt,sopsAt,ordOf,zipF]
 have hR:=WZ.rd (c:=⟨Tryz.prog,56,w,[],by simp⟩) hE rfl []
 have hR1:=WZ.rd (c:=⟨Tryz.prog,56,w,[],by simp⟩) hu rfl []
 have hR2:=WZ.rd (c:=⟨Tryz.prog,56,w,[],by simp⟩) hz rfl []
 repeat' first|apply jS|apply jO|apply jN|refine Q0 ?_|refine Q7 ?_|refine Qt fun _=>?_|apply jT
 rename_i b4 b7
 refine Q6 trivial rfl rfl rfl (fun w hk _=>Zs w _ m.xm (hvX.mono hk) (Q1u hm)) fun w v w' _ _ _ hR=>?_
 obtain⟨b',rfl,hb⟩:=hR
 obtain rfl:=hb.2 hm.rx
 by_cases hd:bs.length=m.r∧ys.length=m.r
 ·obtain⟨hd1,hd2⟩:=hd
  repeat' first|apply jS|apply jO|apply jN|refine Q1 ?_|refine Q3 ?_|refine Q0 ?_|refine Qb ?_|refine Q7 ?_|refine ZA (h:=?_)|refine Qx (h:=?_)|refine QP (h:=?_)|(refine Z5 (h1:=?_) (h2:=?_)<;>intro hc<;>try (exfalso;omega))|apply jT
  all_goals first
   | (exfalso;omega)
   | skip
  refine Q6 pqq rfl eqq rfl (fun w _ _=>ZE w _ d (K+L+1) ht0 oq) fun w v w' _ _ _ hR=>?_
  subst hR
  by_cases hsg:d.sign<0
  ·repeat' first|apply jS|apply jO|apply jN|apply jT|refine Q0 ?_|refine Qx (h:=?_)|(refine Qk (h1:=?_) (h2:=?_)<;>intro hc<;>try (exfalso;omega))|apply jV|apply jR|refine Q8 rfl ?_
   all_goals first
    | (exfalso;omega)
    | skip
   exact Qh rfl (fun a w' st=>⟨st.kp,IsB.f (fun h=>by have:=Q9d.1 hsg;have:=h.2.2.1;omega)⟩)
  ·have hd0:0≤d:=by
    rcases Int.lt_or_le d 0 with h|h
    ·exact absurd (Q9d.2 h) hsg
    ·exact h
   repeat' first|apply jS|apply jO|apply jN|apply jT|refine Q0 ?_|refine Qx (h:=?_)|(refine Qk (h1:=?_) (h2:=?_)<;>intro hc<;>try (exfalso;omega))|apply jK|refine Q4 rfl ?_|apply jB
   all_goals first
    | (exfalso;omega)
    | skip
   refine Qi (ι:=Nat) ⟨fun z=>[(10,nv z),(8,.bool false),(1,.slice A1 bs.length c1),(2,.slice A2 ys.length c2),(4,.pointer (some ⟨b4,0,none⟩)),(7,.pointer (some ⟨b7,0,none⟩))],fun z=>[(b7,.cells #[.bool p,sv l] 35),(b4,.cells #[nv m.r,nv m.c,.slice A0 (m.r*m.c) c0] 26)],
    fun z=>z≤m.c∧∀ a,a<z→d∣colS m ys a m.r,fun z=>m.c-z⟩ 0 ⟨Nat.zero_le _,fun a h=>absurd h (Nat.not_lt_zero _)⟩ cqq (HSub.refl _) (fun i hi=>?_)
   obtain⟨hir,hrows⟩:=hi
   dsimp only at hir hrows ⊢
   by_cases hii:i<m.c
   ·repeat' first|apply jS|apply jO|apply jD|apply jN|apply jT|refine Q1 ?_|refine Q3 ?_|refine Qb ?_|refine Q7 ?_|(refine Qk (h1:=?_) (h2:=?_)<;>intro hc<;>try (exfalso;omega))|apply jK|refine Q8 rfl ?_|apply jB
    refine Qd (A:=[_,_]) (B:=[]) rfl pqq rfl eqq rfl (fun w hk hs=>Qox w _ m i hm hii (hv0.mono hk)) fun w v w' _ _ _ hR=>?_
    obtain⟨N1,hN1,hO1⟩:=hR
    obtain⟨A3,c3,rfl⟩:=hO1.form
    refine⟨N1,hN1,?_⟩
    have hbc:BdL K (tab m.r fun a=>m.at a i):=fun a=>by
     by_cases ha:a<m.r
     ·rw[ZG ha];exact hx.at a i
     ·rw[List.getD,List.getElem?_eq_none (by rw[Xj];omega)];exact pos256 K
    skip
    refine Q6 pqq rfl eqq rfl (fun w hk hs=>Qjm L K w _ _ m.r ys (tab m.r fun a=>m.at a i) (by rw[← hd2];exact hz.mono hk) (hO1.rd.at hk hs Q5) hr oq hy2 hbc) fun w v w' _ _ _ hR=>?_
    have hcs:(smI m.r fun a=>ys.getD a 0*(tab m.r fun a=>m.at a i).getD a 0)=colS m ys i m.r:=Q09 fun a ha=>by rw[ZG ha]
    rw[hcs]at hR
    subst hR
    have hSb:(colS m ys i m.r).natAbs<256 ^ (K+L+1):=Qcm hr fun a=>by rw[Nat.add_comm K L];exact YF (hy2 a) (hx.at a i)
    skip
    refine Q6 pqq rfl eqq rfl (fun w _ _=>Qjh w _ _ d (colS m ys i m.r) (K+L+1) ht0 (Qf hSb) oq) fun w v w' _ _ _ hR=>?_
    subst hR
    by_cases hdv:d∣colS m ys i m.r
    ·rw[decide_eq_true hdv]
     repeat' first|apply jS|apply jO|apply jN|apply jT|refine Q1 ?_|refine Q0 ?_|refine Qg ?_|refine QP (h:=?_)|apply jK|refine Q4 rfl ?_|apply jW
     exact Qa (i+1) ⟨by first|omega|(dsimp only;omega),fun a ha=>by
      rcases Nat.lt_or_ge a i with h|h
      ·exact hrows a h
      ·obtain rfl:a=i:=by omega
       exact hdv⟩ dgp cqq (by exact HSub.at 0 rfl (HSub.at 0 rfl (HSub.nil _)))
    ·rw[decide_eq_false hdv]
     repeat' first|apply jS|apply jO|apply jN|apply jT|refine Q1 ?_|refine Q0 ?_|refine QP (h:=?_)|apply jV|apply jR|refine Q8 rfl ?_|refine QH ?_
     exact Qh rfl (fun a w' st=>⟨st.kp,IsB.f (fun h=>hdv (h.2.2.2.1 i hii))⟩)
   ·repeat' first|apply jS|apply jO|apply jD|apply jN|apply jT|refine Q1 ?_|refine Q3 ?_|refine Qb ?_|refine Q7 ?_|(refine Qk (h1:=?_) (h2:=?_)<;>intro hc<;>try (exfalso;omega))|apply jU|apply jE|refine Q4 rfl ?_|refine Qe ?_
    refine Q6 pqq rfl eqq rfl (fun w hk hs=>Qjm L K w _ _ m.r ys bs (by rw[← hd2];exact hz.mono hk) (by rw[← hd1];exact hu.mono hk) hr oq hy2 hy) fun w v w' _ _ _ hR=>?_
    rw[show (smI m.r fun a=>ys.getD a 0*bs.getD a 0)=dotS ys bs m.r from rfl]at hR
    subst hR
    have hSb:(dotS ys bs m.r).natAbs<256 ^ (K+L+1):=Qcm hr fun a=>by rw[Nat.add_comm K L];exact YF (hy2 a) (hy a)
    skip
    refine Q6 pqq rfl eqq rfl (fun w _ _=>Qjh w _ _ d (dotS ys bs m.r) (K+L+1) ht0 (Qf hSb) oq) fun w v w' _ _ _ hR=>?_
    subst hR
    by_cases hdv:d∣dotS ys bs m.r
    ·rw[decide_eq_true hdv]
     repeat' first|apply jN|apply jT|refine Q0 ?_|refine QP (h:=?_)|apply jR
     exact Qh rfl (fun a w' st=>⟨st.kp,IsB.f (fun h=>h.2.2.2.2 hdv)⟩)
    ·rw[decide_eq_false hdv]
     repeat' first|apply jN|apply jT|refine Q0 ?_|refine QP (h:=?_)|apply jR
     exact Qh rfl (fun a w' st=>⟨st.kp,IsB.t ⟨hd1,hd2,hd0,fun j hj=>hrows j oq,hdv⟩⟩)
 ·repeat' first|apply jS|apply jO|apply jN|apply jT|refine Q1 ?_|refine Q3 ?_|refine Q0 ?_|refine Qb ?_|refine ZA (h:=?_)|refine Ql ?_|refine Qx (h:=?_)|refine QP (h:=?_)|(refine Z5 (h1:=?_) (h2:=?_)<;>intro hc<;>try (exfalso;omega))|apply jV|refine Q8 rfl ?_|refine QJ (h:=?_)|apply jR
  all_goals first
   | (exfalso;omega)
   | exact Qh rfl (fun a w' st=>⟨st.kp,IsB.f (fun h=>hd ⟨h.1,h.2.1⟩)⟩)

end Go.Proofs.YtljmapfihjkafaaGreatDoor

