import Derived.Test.YtljmapfihjkafaaGreatDoorMm
import Derived.Test.YtljmapfihjkafaaGreatDoorMo
import Derived.Test.YtljmapfihjkafaaGreatDoorTie
import Derived.Test.YtljmapfihjkafaaGreatDoorCards
import Derived.Shelf.Lay
import Derived.Lay
import Derived.LaidOnce
import Derived.SevenTiedAt
set_option maxHeartbeats 16000000
/- The law LatticeKeeps: the walk. ROWZ ROWT SMITH -/
namespace Go.Proofs.YtljmapfihjkafaaGreatDoor
open Go Go.RowKit
set_option linter.unusedSimpArgs false
set_option linter.unusedVariables false
set_option linter.unusedSectionVars false

theorem Qhh {m:ZM} {i j r c:Nat} (hr:r≤5) (hc:c≤5):(partZ m i j r c).e.length≤25:=by
 show (tbz r c fun a b=>m.at (i+a) (j+b)).length≤25
 rw[Q06]
 exact Nat.mul_le_mul hr hc

theorem Qhn {A B:SHeap} {w w':World} (h:New (A++B) w w'):New A w w' :=
 ⟨by have:=h.nd;rw[List.map_append,List.nodup_append]at this;exact this.1,fun p hp=>h.ge p (List.mem_append_left _ hp),fun p hp=>h.blk p (List.mem_append_left _ hp)⟩

theorem Q3l (w:World) (v0:Value) (X:List (List Int)) (v1:Value) (L1:List Int) (hv0:IsLL w v0 X) (hv1:IsL w v1 L1) :
  Calls Tryz.prog 7 #[v0,v1] w (Ret fun v w'=>Kp [] w w'∧v=.bool true):=by
 obtain⟨hXl,hXr⟩:=hv0.lens
 have hXR:=hv0.rows
 obtain⟨A1,c1,rfl⟩:=hv1.2.1.form
 obtain⟨K,hK⟩:∃ K,K=1466761996653:=⟨_,rfl⟩
 refine Q9 [⟨3,1,[0,1,2,4,5,6,3,7,8,9],[]⟩,⟨12,4,[0,1,3,2,4,5,6,7,8,9,10,11,12,13,14],[]⟩,⟨16,1,[0,1,2,3,4,5,6,7,8,9,10,11,12,13,14,15,16,17,20,21,18,19,22,23,24],[]⟩] [] spq [] Tryz.func7 rfl mixed (by kernel_rfl) Tryz.ntmps7 Tryz.results7 rfl ⟨by simp,by simp⟩ spq ?_
 simp only[toS,textOps,toSOp,kindAt,kindOf,odAt,sopsAt,ordOf,zipF]
 repeat' first|apply jS|apply jO|refine Q0 ?_|apply jN
 refine Qs ?_
 repeat' first|apply jS|apply jO
 refine Q6 trivial rfl rfl rfl (fun w _ _=>Qfi w) fun w v w' _ _ _ hR=>?_
 subst hR
 repeat' first|refine Q0 ?_|apply jN
 refine JX.part (F':=[(5,.bool true),(0,v0),(1,.slice A1 L1.length c1)]) (H':=[]) cqq Qz ?_
 refine Qs ?_
 repeat' first|apply jS|refine Q1 ?_|apply jO
 refine Qd (A:=[]) (B:=[]) rfl pqq rfl eqq rfl (fun w hk hs=>Qav w v0 X 1 (hXR.mono hk) hXl hXr) fun w v w' _ _ _ hR=>?_
 obtain⟨m,hm⟩:∃ m,m=ofZ (smX X 1):=⟨_,rfl⟩
 have rtm:RtZ m:=hm▸Qnc X 1
 have bdm:BdZ 1 m:=hm▸Qpd X 1
 have mr5:m.r≤5:=hm▸sm_r X 1
 have mc5:m.c≤5:=hm▸sm_c X 1
 have bdk:BdZ (K+1) m:=bdm.mono oq
 obtain⟨S',hf⟩:∃ S',formF (K+1) 26 5 m.r m.c (min m.r m.c) 0 (startS m.r m.c (rowsOf m))=some S':=hm▸Qlu X (K:=K) oq
 rw[← hm]at hR
 obtain⟨Na,hNa,Ea,rfl,hOa⟩:=hR
 obtain⟨Aa,ca,rfl⟩:=hOa.form
 refine⟨Na,hNa,?_⟩
 repeat' first|refine Q1 ?_|fail
 refine Qd (A:=[]) (B:=Na++[]) rfl pqq rfl eqq rfl (fun w hk hs=>Qav w v0 X 1 (hXR.mono hk) hXl hXr) fun w v w' _ _ _ hR=>?_
 rw[← hm]at hR
 obtain⟨Nb,hNb,Eo,rfl,hOb⟩:=hR
 obtain⟨Ao,co,rfl⟩:=hOb.form
 refine⟨Nb,hNb,?_⟩
 repeat' first|refine Q2 ?_|refine Qc fun _=>?_|refine Q2 ?_|apply jN
 rename_i b6 b7
 refine JX.part (F':=[(7,.pointer (some ⟨b7,0,none⟩)),(6,.pointer (some ⟨b6,0,none⟩)),(5,.bool true),(1,.slice A1 L1.length c1)]) (H':=[(b6,.cells #[nv m.r,nv m.c,.slice Aa m.e.length ca] 26),(b7,.cells #[nv m.r,nv m.c,.slice Ao m.e.length co] 26)]++(Nb++(Na++[]))) cqq Qz ?_
 refine Qs ?_
 repeat' first|apply jS|refine Q1 ?_|refine Q3 ?_|refine Qb ?_|apply jD
 refine Qd (A:=[_,_]) (B:=Nb++(Na++[])) rfl pqq rfl eqq rfl (fun w hk hs=>Qfu w _ L1.length m.r 8 L1 (hv1.2.1.mono hk) hv1.2.2 oq dq) fun w v w' _ _ _ hR=>?_
 obtain⟨N1,hN1,hO1⟩:=hR
 obtain⟨B1,k1,rfl⟩:=hO1.form
 refine⟨N1,hN1,?_⟩
 skip
 refine Qd (A:=[_,_]) (B:=N1++(Nb++(Na++[]))) rfl pqq rfl eqq rfl (fun w hk hs=>Qfu w _ L1.length m.r 8 L1 (hv1.2.1.mono hk) hv1.2.2 oq dq) fun w v w' _ _ _ hR=>?_
 obtain⟨N2,hN2,hO2⟩:=hR
 obtain⟨B2,k2,rfl⟩:=hO2.form
 refine⟨N2,hN2,?_⟩
 repeat' first|refine Q0 ?_|apply jN
 obtain⟨xs,hxs⟩:∃ x,x=listL L1 L1.length 8 m.r:=⟨_,rfl⟩
 have lx:xs.length=m.r:=hxs▸Qed _ _ _ _
 have bx:BdL 8 xs:=hxs▸Qhw _ _ _ _ dq
 rw[← hxs]at hO1 hO2
 refine JX.part (F':=[(9,.slice B2 m.r k2),(8,.slice B1 m.r k1),(7,.pointer (some ⟨b7,0,none⟩)),(6,.pointer (some ⟨b6,0,none⟩)),(5,.bool true)]) (H':=[(b6,.cells #[nv m.r,nv m.c,.slice Aa m.e.length ca] 26),(b7,.cells #[nv m.r,nv m.c,.slice Ao m.e.length co] 26)]++(N2++(N1++(Nb++(Na++[]))))) cqq Qz ?_
 refine Qs ?_
 repeat' first|apply jS|apply jO
 refine Q6 pqq rfl eqq rfl (fun w _ _=>YK w 7 dq dq) fun w v w' _ _ _ hR=>?_
 subst hR
 repeat' first|refine Q2 ?_|refine Qc fun _=>?_|refine Q2 ?_|apply jN
 rename_i b10
 refine JX.part (F':=[(10,.pointer (some ⟨b10,0,none⟩)),(9,.slice B2 m.r k2),(8,.slice B1 m.r k1),(7,.pointer (some ⟨b7,0,none⟩)),(6,.pointer (some ⟨b6,0,none⟩)),(5,.bool true)]) (H':=[(b10,.cells #[.bool (wz 7).1,sv (wz 7).2] 35),(b6,.cells #[nv m.r,nv m.c,.slice Aa m.e.length ca] 26),(b7,.cells #[nv m.r,nv m.c,.slice Ao m.e.length co] 26)]++(N2++(N1++(Nb++(Na++[]))))) cqq Qz ?_
 refine Qs ?_
 repeat' first|apply jS|apply jO|refine Q0 ?_|refine Yy (h:=?_)|apply jN
 refine JX.part (F':=[(11,.func (.func 36) #[] #[.pointer (some ⟨b10,0,none⟩)]),(9,.slice B2 m.r k2),(8,.slice B1 m.r k1),(7,.pointer (some ⟨b7,0,none⟩)),(6,.pointer (some ⟨b6,0,none⟩)),(5,.bool true)]) (H':=[(b10,.cells #[.bool (wz 7).1,sv (wz 7).2] 35),(b6,.cells #[nv m.r,nv m.c,.slice Aa m.e.length ca] 26),(b7,.cells #[nv m.r,nv m.c,.slice Ao m.e.length co] 26)]++(N2++(N1++(Nb++(Na++[]))))) cqq Qz ?_
 refine Qs ?_
 repeat' first|apply jS|refine Q7 ?_|apply jO
 refine Qd (A:=[_,_,_]) (B:=N2++(N1++(Nb++(Na++[])))) rfl pqq rfl eqq rfl (fun w hk hs=>Q1q K 26 5 w _ m S' rtm ⟨_,rfl,hOa.rd.at hk hs Q5⟩ oq bdk hf) fun w v w' _ _ _ hR=>?_
 obtain⟨P,hP⟩:∃ P,P=partZ (gM m.c m.c S'.v) 0 (facP S'.d (min m.r m.c)).length m.c (m.c-(facP S'.d (min m.r m.c)).length):=⟨_,rfl⟩
 have hPl:P.e.length≤25:=hP▸Qhh mc5 oq
 rw[← hP]at hR
 obtain⟨Nk,hNk,Ek,rfl,hOk⟩:=hR
 obtain⟨Ak,ck,rfl⟩:=hOk.form
 refine⟨Nk,hNk,?_⟩
 repeat' first|refine Q2 ?_|refine Qc fun _=>?_|refine Q2 ?_|apply jN
 rename_i b12
 refine JX.part (F':=[(12,.pointer (some ⟨b12,0,none⟩)),(11,.func (.func 36) #[] #[.pointer (some ⟨b10,0,none⟩)]),(9,.slice B2 m.r k2),(8,.slice B1 m.r k1),(7,.pointer (some ⟨b7,0,none⟩)),(6,.pointer (some ⟨b6,0,none⟩)),(5,.bool true)]) (H':=[(b12,.cells #[nv P.r,nv P.c,.slice Ak P.e.length ck] 26),(b10,.cells #[.bool (wz 7).1,sv (wz 7).2] 35),(b6,.cells #[nv m.r,nv m.c,.slice Aa m.e.length ca] 26),(b7,.cells #[nv m.r,nv m.c,.slice Ao m.e.length co] 26)]++(Nk++(N2++(N1++(Nb++(Na++[])))))) cqq Qz ?_
 refine Qs ?_
 repeat' first|apply jS|refine Q1 ?_|refine Q3 ?_|refine Qb ?_|apply jO
 refine Q1e (A:=[_,_,_,_]) (N:=Nk) (B:=N2++(N1++(Nb++(Na++[])))) rfl pqq rfl eqq rfl rfl (fun w hk hs=>Q1n w b10 7 (.slice Ak P.e.length ck) P.e.length P.e Nk hOk (HSub.hsat (HSub.at 1 rfl (HSub.skip (HSub.skip (HSub.skip (Qv))))) hs) oq) fun w v w' _ _ _ hR=>?_
 obtain⟨N',hk',hin,_,_⟩:=hR
 refine⟨N',hk',hin,?_⟩
 repeat' first|apply jN
 refine JX.part (F':=[(12,.pointer (some ⟨b12,0,none⟩)),(11,.func (.func 36) #[] #[.pointer (some ⟨b10,0,none⟩)]),(9,.slice B2 m.r k2),(8,.slice B1 m.r k1),(7,.pointer (some ⟨b7,0,none⟩)),(6,.pointer (some ⟨b6,0,none⟩)),(5,.bool true)]) (H':=[(b12,.cells #[nv P.r,nv P.c,.slice Ak P.e.length ck] 26),(b10,.cells #[.bool (wz 7).1,sv (wz 7).2] 35),(b6,.cells #[nv m.r,nv m.c,.slice Aa m.e.length ca] 26),(b7,.cells #[nv m.r,nv m.c,.slice Ao m.e.length co] 26)]++(N2++(N1++(Nb++(Na++[]))))) cqq Qz ?_
 refine Qs ?_
 repeat' first|apply jS|refine Q1 ?_|refine Q7 ?_|apply jO
 refine Qd (A:=[_,_,_,_]) (B:=N2++(N1++(Nb++(Na++[])))) rfl pqq rfl eqq rfl (fun w hk hs=>Q5v K 26 5 8 w _ _ m xs S' rtm ⟨_,rfl,hOa.rd.at hk hs Q5⟩ (hO1.rd.at hk hs Q5) oq bdk bx hf) fun w v w' _ _ _ hR=>?_
 obtain⟨dd,hdd⟩:∃ dd,dd=decide (wrongF (gM m.r m.c S'.d) (appL (gM m.r m.r S'.u) xs)=none):=⟨_,rfl⟩
 rw[← hdd]at hR
 obtain⟨Nx,Ex,nx,zs,hNx,rfl,hOx,hnx⟩:=hR
 obtain⟨Ax,cx,rfl⟩:=hOx.form
 refine⟨Nx,hNx,?_⟩
 repeat' first|refine Q1 ?_|refine Q0 ?_|refine Qn (h:=?_)|apply jN
 refine JX.part (F':=[(13,.slice Ax nx cx),(12,.pointer (some ⟨b12,0,none⟩)),(11,.func (.func 36) #[] #[.pointer (some ⟨b10,0,none⟩)]),(9,.slice B2 m.r k2),(8,.slice B1 m.r k1),(7,.pointer (some ⟨b7,0,none⟩)),(6,.pointer (some ⟨b6,0,none⟩)),(5,.bool true)]) (H':=[(b12,.cells #[nv P.r,nv P.c,.slice Ak P.e.length ck] 26),(b10,.cells #[.bool (wz 7).1,sv (wz 7).2] 35),(b6,.cells #[nv m.r,nv m.c,.slice Aa m.e.length ca] 26),(b7,.cells #[nv m.r,nv m.c,.slice Ao m.e.length co] 26)]++(Nx++(N2++(N1++(Nb++(Na++[])))))) cqq Qz ?_
 refine Qs ?_
 repeat' first|apply jS|refine Q1 ?_|apply jO
 refine Q1e (A:=[_,_,_,_]) (N:=Nx) (B:=N2++(N1++(Nb++(Na++[])))) rfl pqq rfl eqq rfl rfl (fun w hk hs=>Q1n w b10 7 (.slice Ax nx cx) nx zs Nx hOx (HSub.hsat (HSub.at 1 rfl (HSub.skip (HSub.skip (HSub.skip (Qv))))) hs) oq) fun w v w' _ _ _ hR=>?_
 obtain⟨N',hk',hin,_,_⟩:=hR
 refine⟨N',hk',hin,?_⟩
 repeat' first|apply jN
 refine JX.part (F':=[(12,.pointer (some ⟨b12,0,none⟩)),(11,.func (.func 36) #[] #[.pointer (some ⟨b10,0,none⟩)]),(9,.slice B2 m.r k2),(8,.slice B1 m.r k1),(7,.pointer (some ⟨b7,0,none⟩)),(6,.pointer (some ⟨b6,0,none⟩)),(5,.bool true)]) (H':=[(b12,.cells #[nv P.r,nv P.c,.slice Ak P.e.length ck] 26),(b10,.cells #[.bool (wz 7).1,sv (wz 7).2] 35),(b6,.cells #[nv m.r,nv m.c,.slice Aa m.e.length ca] 26),(b7,.cells #[nv m.r,nv m.c,.slice Ao m.e.length co] 26)]++(N2++(N1++(Nb++(Na++[]))))) cqq Qz ?_
 refine Qs ?_
 repeat' first|apply jS|refine Q1 ?_|refine Q7 ?_|apply jO
 refine Qd (A:=[_,_,_,_]) (B:=N2++(N1++(Nb++(Na++[])))) rfl pqq rfl eqq rfl (fun w hk hs=>Qfs K 26 5 8 w _ _ m xs S' rtm ⟨_,rfl,hOa.rd.at hk hs Q5⟩ (hO1.rd.at hk hs Q5) oq bdk bx hf) fun w v w' _ _ _ hR=>?_
 obtain⟨Ny,Ey,ny,ys,yy,yb,hNy,rfl,hOy,hny⟩:=hR
 obtain⟨Ay,cy,rfl⟩:=hOy.form
 refine⟨Ny,hNy,?_⟩
 repeat' first|refine Q1 ?_|refine Q0 ?_|refine Qn (h:=?_)|refine Q2 ?_|refine Qc fun _=>?_|refine Q2 ?_|apply jN
 refine JX.part (F':=[(15,.slice Ay ny cy),(12,.pointer (some ⟨b12,0,none⟩)),(11,.func (.func 36) #[] #[.pointer (some ⟨b10,0,none⟩)]),(9,.slice B2 m.r k2),(8,.slice B1 m.r k1),(7,.pointer (some ⟨b7,0,none⟩)),(6,.pointer (some ⟨b6,0,none⟩)),(5,.bool true)]) (H':=[(b12,.cells #[nv P.r,nv P.c,.slice Ak P.e.length ck] 26),(b10,.cells #[.bool (wz 7).1,sv (wz 7).2] 35),(b6,.cells #[nv m.r,nv m.c,.slice Aa m.e.length ca] 26),(b7,.cells #[nv m.r,nv m.c,.slice Ao m.e.length co] 26)]++(Ny++(N2++(N1++(Nb++(Na++[])))))) cqq Qz ?_
 refine Qs ?_
 repeat' first|apply jS|refine Q1 ?_|apply jO
 refine Q1e (A:=[_,_,_,_]) (N:=Ny) (B:=N2++(N1++(Nb++(Na++[])))) rfl pqq rfl eqq rfl rfl (fun w hk hs=>Q1n w b10 7 (.slice Ay ny cy) ny ys Ny hOy (HSub.hsat (HSub.at 1 rfl (HSub.skip (HSub.skip (HSub.skip (Qv))))) hs) oq) fun w v w' _ _ _ hR=>?_
 obtain⟨N',hk',hin,_,_⟩:=hR
 refine⟨N',hk',hin,?_⟩
 repeat' first|apply jN
 refine JX.part (F':=[(12,.pointer (some ⟨b12,0,none⟩)),(11,.func (.func 36) #[] #[.pointer (some ⟨b10,0,none⟩)]),(9,.slice B2 m.r k2),(8,.slice B1 m.r k1),(7,.pointer (some ⟨b7,0,none⟩)),(6,.pointer (some ⟨b6,0,none⟩)),(5,.bool true)]) (H':=[(b12,.cells #[nv P.r,nv P.c,.slice Ak P.e.length ck] 26),(b10,.cells #[.bool (wz 7).1,sv (wz 7).2] 35),(b6,.cells #[nv m.r,nv m.c,.slice Aa m.e.length ca] 26),(b7,.cells #[nv m.r,nv m.c,.slice Ao m.e.length co] 26)]++(N2++(N1++(Nb++(Na++[]))))) cqq Qz ?_
 refine Qs ?_
 repeat' first|apply jS|refine Q3 ?_|refine Qb ?_|refine Q7 ?_|apply jD
 refine Qd (A:=[_,_,_,_]) (B:=N2++(N1++(Nb++(Na++[])))) rfl pqq rfl eqq rfl (fun w hk hs=>Q1o m.r oq w) fun w v w' _ _ _ hR=>?_
 obtain⟨No,hNo,Eo',rfl,hOo⟩:=hR
 obtain⟨Az,cz,rfl⟩:=hOo.form
 refine⟨No,hNo,?_⟩
 skip
 refine Qd (A:=[_,_,_,_]) (B:=No++(N2++(N1++(Nb++(Na++[]))))) rfl pqq rfl eqq rfl (fun w hk hs=>Qft 1 26 5 1 K 26 5 w _ _ (oneZ m.r) m (startS m.r m.r (oneL m.r)) S' (YN oq oq) rtm rfl ⟨_,rfl,hOo.rd.at hk hs Q5⟩ ⟨_,rfl,hOa.rd.at hk hs Q5⟩ dq oq ((BdZ.one m.r).mono dq) bdm (Qlx mr5) (Qi4 mr5) (fun j _=>by show wrongF (gM m.r m.r (oneL m.r)) _=none;rw[Qek mr5];exact Qbv _) (by rw[Qf0 mr5 rtm rfl];exact bdk) (by rw[Qf0 mr5 rtm rfl];exact hf)) fun w v w' _ _ _ hR=>?_
 obtain⟨Nt,At,ct,Ag,cg,Ng,gs,hNt,hOt,rfl,hOg,hcl⟩:=hR
 generalize (torL (gM (oneZ m.r).c m.c S'.d) (List.range (oneZ m.r).c)).length=tl at hOt ⊢
 generalize (colQ (gM (oneZ m.r).c m.c S'.d) (List.range (oneZ m.r).c)).length=gl at hOg hcl ⊢
 generalize freN (gM (oneZ m.r).c m.c S'.d) (List.range (oneZ m.r).c)=fr
 have hcl5:gl≤5:=Nat.le_trans hcl mr5
 have hgl:m.r*gl≤25:=Nat.mul_le_mul mr5 hcl5
 refine⟨Ng,Qhn hNt,?_⟩
 repeat' first|refine Q1 ?_|refine Q0 ?_|refine Qn (h:=?_)|refine Q2 ?_|refine Qc fun _=>?_|refine Q2 ?_|apply jN
 rename_i b20
 refine JX.part (F':=[(20,.pointer (some ⟨b20,0,none⟩)),(12,.pointer (some ⟨b12,0,none⟩)),(11,.func (.func 36) #[] #[.pointer (some ⟨b10,0,none⟩)]),(9,.slice B2 m.r k2),(8,.slice B1 m.r k1),(7,.pointer (some ⟨b7,0,none⟩)),(6,.pointer (some ⟨b6,0,none⟩)),(5,.bool true)]) (H':=[(b20,.cells #[nv m.r,nv gl,.slice Ag (m.r*gl) cg] 26),(b12,.cells #[nv P.r,nv P.c,.slice Ak P.e.length ck] 26),(b10,.cells #[.bool (wz 7).1,sv (wz 7).2] 35),(b6,.cells #[nv m.r,nv m.c,.slice Aa m.e.length ca] 26),(b7,.cells #[nv m.r,nv m.c,.slice Ao m.e.length co] 26)]++(Ng++(N2++(N1++(Nb++(Na++[])))))) cqq Qz ?_
 refine Qs ?_
 repeat' first|apply jS|refine Q1 ?_|refine Q3 ?_|refine Qb ?_|apply jO
 refine Q1e (A:=[_,_,_,_,_]) (N:=Ng) (B:=N2++(N1++(Nb++(Na++[])))) rfl pqq rfl eqq rfl rfl (fun w hk hs=>Q1n w b10 7 (.slice Ag (m.r*gl) cg) (m.r*gl) gs Ng hOg (HSub.hsat (HSub.at 2 rfl (HSub.skip (HSub.skip (HSub.skip (HSub.skip (Qv)))))) hs) oq) fun w v w' _ _ _ hR=>?_
 obtain⟨N',hk',hin,_,_⟩:=hR
 refine⟨N',hk',hin,?_⟩
 repeat' first|apply jN
 refine JX.part (F':=[(12,.pointer (some ⟨b12,0,none⟩)),(11,.func (.func 36) #[] #[.pointer (some ⟨b10,0,none⟩)]),(9,.slice B2 m.r k2),(8,.slice B1 m.r k1),(7,.pointer (some ⟨b7,0,none⟩)),(6,.pointer (some ⟨b6,0,none⟩)),(5,.bool true)]) (H':=[(b12,.cells #[nv P.r,nv P.c,.slice Ak P.e.length ck] 26),(b10,.cells #[.bool (wz 7).1,sv (wz 7).2] 35),(b6,.cells #[nv m.r,nv m.c,.slice Aa m.e.length ca] 26),(b7,.cells #[nv m.r,nv m.c,.slice Ao m.e.length co] 26)]++(N2++(N1++(Nb++(Na++[]))))) cqq Qz ?_
 refine Qs ?_
 repeat' first|apply jS|refine Q1 ?_|refine Q7 ?_|apply jO
 refine Qd (A:=[_,_,_,_]) (B:=N2++(N1++(Nb++(Na++[])))) rfl pqq rfl eqq rfl (fun w hk hs=>Q5v K 26 5 8 w _ _ m xs S' rtm ⟨_,rfl,hOa.rd.at hk hs Q5⟩ (hO1.rd.at hk hs Q5) oq bdk bx hf) fun w v w' _ _ _ hR=>?_
 rw[← hdd]at hR
 obtain⟨Nx23,Ex,nx23,zs23,hNx,rfl,hOx23,hnx23⟩:=hR
 obtain⟨Ax23,cx23,rfl⟩:=hOx23.form
 refine⟨Nx23,hNx,?_⟩
 repeat' first|refine Q1 ?_|refine Q0 ?_|refine Qn (h:=?_)|apply jN
 refine JX.part (F':=[(23,.bool dd),(12,.pointer (some ⟨b12,0,none⟩)),(11,.func (.func 36) #[] #[.pointer (some ⟨b10,0,none⟩)]),(9,.slice B2 m.r k2),(8,.slice B1 m.r k1),(7,.pointer (some ⟨b7,0,none⟩)),(6,.pointer (some ⟨b6,0,none⟩)),(5,.bool true)]) (H':=[(b12,.cells #[nv P.r,nv P.c,.slice Ak P.e.length ck] 26),(b10,.cells #[.bool (wz 7).1,sv (wz 7).2] 35),(b6,.cells #[nv m.r,nv m.c,.slice Aa m.e.length ca] 26),(b7,.cells #[nv m.r,nv m.c,.slice Ao m.e.length co] 26)]++(N2++(N1++(Nb++(Na++[]))))) cqq Qz ?_
 refine Qs ?_
 repeat' first|apply jS|refine Q1 ?_|refine Q7 ?_|apply jO
 refine Qd (A:=[_,_,_,_]) (B:=N2++(N1++(Nb++(Na++[])))) rfl pqq rfl eqq rfl (fun w hk hs=>Q5v K 26 5 8 w _ _ m xs S' rtm ⟨_,rfl,hOb.rd.at hk hs Q5⟩ (hO2.rd.at hk hs Q5) oq bdk bx hf) fun w v w' _ _ _ hR=>?_
 rw[← hdd]at hR
 obtain⟨Nx25,Ex,nx25,zs25,hNx,rfl,hOx25,hnx25⟩:=hR
 obtain⟨Ax25,cx25,rfl⟩:=hOx25.form
 refine⟨Nx25,hNx,?_⟩
 repeat' first|refine Q1 ?_|refine Q0 ?_|refine Qn (h:=?_)|apply jN
 refine JX.part (F':=[(25,.bool dd),(23,.bool dd),(12,.pointer (some ⟨b12,0,none⟩)),(11,.func (.func 36) #[] #[.pointer (some ⟨b10,0,none⟩)]),(9,.slice B2 m.r k2),(8,.slice B1 m.r k1),(7,.pointer (some ⟨b7,0,none⟩)),(6,.pointer (some ⟨b6,0,none⟩)),(5,.bool true)]) (H':=[(b12,.cells #[nv P.r,nv P.c,.slice Ak P.e.length ck] 26),(b10,.cells #[.bool (wz 7).1,sv (wz 7).2] 35),(b6,.cells #[nv m.r,nv m.c,.slice Aa m.e.length ca] 26),(b7,.cells #[nv m.r,nv m.c,.slice Ao m.e.length co] 26)]++(N2++(N1++(Nb++(Na++[]))))) cqq Qz ?_
 refine Qs ?_
 cases dd with
 | true =>
  repeat' first|apply jS|refine Q1 ?_|refine Q7 ?_|apply jD
  refine Q6 pqq rfl eqq rfl (fun w hk hs=>Q3b w _ _ m.xm m.xm (show IsM w (.agg #[nv m.r,nv m.c,.slice Aa m.e.length ca]) m from⟨_,rfl,hOa.rd.at hk hs Q5⟩).x (show IsM w (.agg #[nv m.r,nv m.c,.slice Ao m.e.length co]) m from⟨_,rfl,hOb.rd.at hk hs Q5⟩).x (by show (m.e.map wz).length<_;rw[List.length_map];have:=rtm.le;omega) (by show (m.e.map wz).length<_;rw[List.length_map];have:=rtm.le;omega)) fun w v w' _ _ _ hR=>?_
  obtain rfl:=Q2w hR ⟨rtm.rx,rfl⟩
  repeat' first|refine Q1 ?_|refine Ql ?_|fail
  refine Q6 pqq rfl eqq rfl (fun w hk hs=>Q1p 8 w _ _ xs xs (by rw[lx];exact hO1.rd.at hk hs Q5) (by rw[lx];exact hO2.rd.at hk hs Q5) oq oq dq bx bx) fun w v w' _ _ _ hR=>?_
  obtain rfl:=Q2w hR rfl
  repeat' first|refine Q1 ?_|refine Q3 ?_|refine Qb ?_|refine Q7 ?_|refine Ql ?_|refine Q9s (h:=?_)|fail
  refine Qd (A:=[_,_,_,_]) (B:=N2++(N1++(Nb++(Na++[])))) rfl pqq rfl eqq rfl (fun w hk hs=>Q1q K 26 5 w _ m S' rtm ⟨_,rfl,hOa.rd.at hk hs Q5⟩ oq bdk hf) fun w v w' _ _ _ hR=>?_
  rw[← hP]at hR
  obtain⟨Nk2,hNk2,Ek2,rfl,hOk2⟩:=hR
  obtain⟨Ak2,ck2,rfl⟩:=hOk2.form
  refine⟨Nk2,hNk2,?_⟩
  skip
  refine Qdm Tryz.underlying26 rfl (show T1 Tryz.prog 3 from inferInstance) rfl eqq rfl rfl ?_
  repeat' first|refine Q0 ?_|refine Ql ?_|(refine QU (h1:=?_) (h2:=?_)<;>intro hc<;>try (exfalso;omega))|apply jN
  refine Qs ?_
  repeat' first|apply jR
  exact Qh rfl (fun a w' st=>⟨st.kp,rfl⟩)
 | false =>
  repeat' first|apply jS|refine Q1 ?_|refine Q7 ?_|apply jD
  refine Q6 pqq rfl eqq rfl (fun w hk hs=>Q3b w _ _ m.xm m.xm (show IsM w (.agg #[nv m.r,nv m.c,.slice Aa m.e.length ca]) m from⟨_,rfl,hOa.rd.at hk hs Q5⟩).x (show IsM w (.agg #[nv m.r,nv m.c,.slice Ao m.e.length co]) m from⟨_,rfl,hOb.rd.at hk hs Q5⟩).x (by show (m.e.map wz).length<_;rw[List.length_map];have:=rtm.le;omega) (by show (m.e.map wz).length<_;rw[List.length_map];have:=rtm.le;omega)) fun w v w' _ _ _ hR=>?_
  obtain rfl:=Q2w hR ⟨rtm.rx,rfl⟩
  repeat' first|refine Q1 ?_|refine Ql ?_|fail
  refine Q6 pqq rfl eqq rfl (fun w hk hs=>Q1p 8 w _ _ xs xs (by rw[lx];exact hO1.rd.at hk hs Q5) (by rw[lx];exact hO2.rd.at hk hs Q5) oq oq dq bx bx) fun w v w' _ _ _ hR=>?_
  obtain rfl:=Q2w hR rfl
  repeat' first|refine Q1 ?_|refine Q3 ?_|refine Qb ?_|refine Q7 ?_|refine Ql ?_|refine Q9s (h:=?_)|fail
  refine Qd (A:=[_,_,_,_]) (B:=N2++(N1++(Nb++(Na++[])))) rfl pqq rfl eqq rfl (fun w hk hs=>Q1q K 26 5 w _ m S' rtm ⟨_,rfl,hOa.rd.at hk hs Q5⟩ oq bdk hf) fun w v w' _ _ _ hR=>?_
  rw[← hP]at hR
  obtain⟨Nk2,hNk2,Ek2,rfl,hOk2⟩:=hR
  obtain⟨Ak2,ck2,rfl⟩:=hOk2.form
  refine⟨Nk2,hNk2,?_⟩
  skip
  refine Qdm Tryz.underlying26 rfl (show T1 Tryz.prog 3 from inferInstance) rfl eqq rfl rfl ?_
  repeat' first|refine Q0 ?_|refine Ql ?_|(refine QU (h1:=?_) (h2:=?_)<;>intro hc<;>try (exfalso;omega))|apply jN
  refine Qs ?_
  repeat' first|apply jR
  exact Qh rfl (fun a w' st=>⟨st.kp,rfl⟩)

end Go.Proofs.YtljmapfihjkafaaGreatDoor

/-
 LawLatticeKeeps: for every input the call of 'cocycle/cocyclelaw04.LatticeKeeps' returns true,and every argument reads afterwards as it read before. Conditions: none. The card.
-/
namespace Go.Proofs.YtljmapfihjkafaaGreatDoor.latticeKeeps
open Go Go.RowKit Go.ChangeShapes Go.WideShapes Go.ChangeAt

set_option maxRecDepth 100000 in
theorem lifted (os:Os) (started:os.Started) (H:Type) (enc:TypeId × Value→H) :
  ReturnsInHanded {} Tryz.checked os 7 .any (fun w args=>(Rows.latticeKeepsSpec.pre enc Tryz.prog Tryz.f7 [] false w args∧laidMetH Tryz.prog Rows.latticeKeepsRow.laid w)∧sizedMet enc Tryz.prog Tryz.f7 (OpenSpec.ofChange Rows.latticeKeepsSpec) false w args)
   (Rows.latticeKeepsSpec.post enc Tryz.prog Tryz.f7 false true false false):=by
 refine returnsInHanded_of_change_and (C:=Tryz.checked) (X:=fun w _=>laidMetH Tryz.prog Rows.latticeKeepsRow.laid w) (fun _ _ _ hh h=>h.of_heap hh) own started (by kernel_rfl) Tryz.func7
  (ChangeSpec.witness_shaped (enc := enc) (C := Tryz.checked) (os := os) (X := fun w _ => laidMetH Tryz.prog Rows.latticeKeepsRow.laid w) false (World.laidAll Tryz.prog os Rows.latticeKeepsRow.laid) #[.slice none 0 0, .slice none 0 0] 8 (World.laidAll_os _ _ _)
   (World.shaped_of_ZipB (by kernel_rfl) (by kernel_rfl)) (by kernel_rfl) (by kernel_rfl) (by kernel_rfl)
   (by rw[MakeChecks.laidMetH_plain _ _ _ (by kernel_rfl)];exact laidMet_laidAll _ (by kernel_rfl) (by kernel_rfl))) ?_
 intro W base args ds gs before hval0 hW _ hwt0 hL _
 have hval:∀ (j:Nat) t v,Tryz.f7.params[j]?=some t→args[j]?=some v→Value.okWide Tryz.prog W .any base t v:=hval0
 have hW':=hW
 obtain⟨p,q,hA0,hV,rfl,hfz,hnd⟩:=hW
 have hA:DataW.TrodAll enc Tryz.prog W 0 (fun _=>true) true Tryz.f7.params.toList args.toList ds p:=hA0
 have hwt:(DataW.weightsEach Tryz.prog (Tryz.f7.params.toList++Rows.latticeKeepsSpec.plain.varTypes Tryz.prog) (ds++gs)).all (· ≤ reachBytes)=true:=hwt0
 have hwt1:=fun n hn=>of_decide_eq_true (List.all_eq_true.1 hwt n hn)
 rw[Tryz.params7]at hA hval hwt1
 obtain⟨v0,vs0,d0,ds0,p0,q0,hargs,rfl,rfl,h0,r0⟩:=trodAll_cons hA
 obtain⟨v1,vs1,d1,ds1,p1,q1,rfl,rfl,rfl,h1,r1⟩:=trodAll_cons r0
 obtain⟨rfl,rfl,rfl⟩:=trodAll_nil r1
 obtain rfl:args=#[v0,v1]:=by cases args;simp_all
 obtain⟨rfl,rfl⟩:=trodVars_none hV
 have k0:=h0
 have lt0:∀ x∈p0,x.block<W.heap.size:=by obtain⟨m,hm⟩:=k0;exact DataW.trod_lt m _ _ _ hm
 obtain⟨X0,s0⟩:=Qbg (hval 0 22 v0 rfl rfl) h0
 have k1:=h1
 have lt1:∀ x∈p1,x.block<W.heap.size:=by obtain⟨m,hm⟩:=k1;exact DataW.trod_lt m _ _ _ hm
 obtain⟨L1,s1⟩:=Qe2 (hval 1 48 v1 rfl rfl) h1
 clear hA0 hval0
 refine(Q3l W v0 X0 v1 L1 s0 s1).mono fun e W' he=>?_
 cases e with
 | panicked _=>exact he.elim
 | outgrown=>exact he.elim
 | returned u =>
  obtain⟨hk,rfl⟩:=he
  have bel:Below W.heap.size W W':=⟨hk.os,hk.tape,hk.output,hk.size,fun k hk2=>hk.block k hk2 spq⟩
  exact⟨_,rfl,_,_,_,[],_,[],hW',trodAll_mk1 (shut_bool Tryz.underlying4 _),(trodAll_cons_mk (Below.trod laidOut (by kernel_rfl) (of_decide_eq_true (by kernel_rfl)) k0 bel lt0) (trodAll_cons_mk (Below.trod laidOut (by kernel_rfl) (of_decide_eq_true (by kernel_rfl)) k1 bel lt1) trodAll_mk0)),rfl,bel.frame _,fun h=>by cases h⟩

theorem holds:Rows.LatticeKeepsSaid :=
 OpenClaim.holds_of_wide 7 Tryz.f7 rfl rfl rfl rfl rfl rfl rfl ⟨rfl,rfl,rfl,rfl,rfl⟩ rfl rfl rfl rfl rfl (by kernel_rfl) Tryz.func7 (by kernel_rfl)
  (of_decide_eq_true (by kernel_rfl)) (by unfold Func.isWrapper;first|(rw[if_pos (by decide +kernel)];kernel_rfl)|(rw[if_neg (by decide +kernel)];exact⟨rfl,rfl⟩))
  (fun os started H enc _=>lifted os started H enc)

theorem proved:Rows.LatticeKeepsCardSaid :=
 Claim7.holds_tied_plain_at .later [] [.data,.pinned] true (true, "2a55c8c770411d0033a71932175e8e630641c3bf870bcb95329879352daafdde") false holds (fun _ h=>by cases h) (by kernel_rfl) (fun _ h=>by cases h) latticeKeeps_row_tie rfl ⟨rfl,rfl⟩ (by kernel_rfl) rfl
  (fun f fn hf hfn => by
   obtain rfl:f=7:=Option.some.inj ((show Tryz.prog.funcNamed "cocycle/cocyclelaw04.LatticeKeeps" = some 7 by kernel_rfl).symm.trans hf) |>.symm
   obtain rfl:fn=Tryz.f7:=(Option.some.inj (Tryz.func7.symm.trans hfn)).symm
   exact⟨by kernel_rfl,fun j t ht=>by
    rw[Tryz.params7]at ht
    have hm:t∈[22,48]:=by simpa using Array.mem_of_getElem? ht
    have hall:([22,48].all fun u=>!Tryz.prog.wantsStandIn u)=true:=by kernel_rfl
    exact(show Tryz.prog.wantsStandIn t=false by simpa using List.all_eq_true.1 hall t hm)⟩)
  (by kernel_rfl)

end Go.Proofs.YtljmapfihjkafaaGreatDoor.latticeKeeps

