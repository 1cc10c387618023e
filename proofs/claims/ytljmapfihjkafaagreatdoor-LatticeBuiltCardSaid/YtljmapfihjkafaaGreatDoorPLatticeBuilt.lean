import Derived.Test.YtljmapfihjkafaaGreatDoorMm
import Derived.Test.YtljmapfihjkafaaGreatDoorMo
import Derived.Test.YtljmapfihjkafaaGreatDoorTie
import Derived.Test.YtljmapfihjkafaaGreatDoorCards
import Derived.Shelf.Lay
import Derived.Lay
import Derived.LaidOnce
import Derived.SevenTiedAt
set_option maxHeartbeats 16000000
/- The law LatticeBuilt: the walk. ROWZ ROWT SMITH -/
namespace Go.Proofs.YtljmapfihjkafaaGreatDoor
open Go Go.RowKit
set_option linter.unusedSimpArgs false
set_option linter.unusedVariables false
set_option linter.unusedSectionVars false

theorem Qsr:nv 1099511627776=iv 1099511627776:=rfl
theorem Qq1 (w:World) (v:Value) (n k0:Nat) (L:List Int) (hv:WI w v n L) (hn:n<9223372036854775808) (hk0:k0≤1000) :
  Calls Tryz.prog 30 #[v,nv k0,iv 1099511627776] w (aP fun v w'=>Kp [] w w'∧∃ N,New N w w'∧aG N v k0 (Q4w L n 1099511627776 k0)):=by
 rw[← Qsr]
 exact Qq2 w v n k0 1099511627776 L hv hn hk0 dq
theorem Qfi {f:Nat→Int} {n k:Nat} (hk:k<n):(tab n fun i=>if i<k then f i else 0).set k (f k)=tab n fun i=>if i<k+1 then f i else 0:=Q6u
theorem Q5p (w0:World) (v0:Value) (X:List (List Int)) (f:Int) (v1:Value) (L1:List Int) (hv0:IsLL w0 v0 X) (hv1:IsL w0 v1 L1) :
  Calls Tryz.prog 8 #[v0,iv f,v1] w0 (aP fun v w'=>Kp [] w0 w'∧v=.bool true):=by
 obtain⟨hXl,hXr⟩:=hv0.lens
 have hXR:=hv0.rows
 obtain⟨A1,c1,rfl⟩:=hv1.2.1.form
 refine Q9 [⟨14,3,[],[]⟩] [] au [] Tryz.func8 rfl mixed (by kernel_rfl) Tryz.ntmps8 Tryz.results8 rfl ⟨by simp,by simp⟩ au ?_
 simp only[toS,Qd,Qt,Qk,Ql,ay,Qg,QA,aC]
 repeat' first|apply jS|apply jO|refine Q0 ?_|apply jN
 apply QE
 repeat' first|apply jS|apply jO
 refine Q5 trivial rfl rfl rfl (fun w _ _=>Qio w) fun w v w' _ _ _ hR=>?_
 subst hR
 repeat' first|refine Q0 ?_|apply jN
 refine JX.part (F':=[(7,.bool true),(0,v0),(1,iv f),(2,.slice A1 L1.length c1)]) (H':=[]) aF QK ?_
 apply QE
 repeat' first|apply jS|refine Q1 ?_|apply jO
 refine Qf (A:=[]) (B:=[]) rfl aA rfl aH rfl (fun w hk hs=>Qli w v0 X f (hXR.mono hk) hXl hXr) fun w v w' _ _ _ hR=>?_
 obtain⟨m,hm⟩:∃ m,m=ofZ (gG X f):=⟨_,rfl⟩
 have rtm:cO m:=hm▸Qqt X f
 have bdm:cZ 1 m:=hm▸Qt9 X f
 have mr5:m.r≤5:=hm▸sm_r X f
 have mc5:m.c≤5:=hm▸sm_c X f
 obtain⟨r0,fc,p,q,hr0,hp,hq,hdt,S',hf⟩:∃ (r fc:Nat) (p q:Nat→Nat),r≤5∧(∀ a,a<r→p a<m.r)∧(∀ a,a<r→q a<m.c)∧aZ r (mn (gE (QZ m)) p q)≠0∧∃ S',ZF (iO r) fc 5 m.r m.c (min m.r m.c) 0 (QY m.r m.c (QZ m))=some S':=hm▸Qkz X f
 obtain⟨rr,hF⟩:=Qhr rtm hf
 have hrr:r0≤rr:=Qo3 hF.c hF.d hp hq hdt
 obtain⟨k1,k2,k3,k4,k5⟩:=Qs5 r0
 have bdr:cZ (iO r0) m:=bdm.mono oq
 obtain⟨S2,hf2⟩:=Qkv (K:=kKr r0) hF mc5 hrr hf bdr rfl
 obtain⟨K,hK⟩:∃ K,iO r0=K+1:=⟨iO r0-1,by omega⟩
 obtain⟨K2,hK2⟩:∃ K2,kKr r0=K2+1:=⟨kKr r0-1,by omega⟩
 have bdP0:=Qs3 (K:=kKr r0) hF mc5 hr0 hrr (by rw[hK]at hf bdr ⊢;exact(YL hf (Yi rtm bdr)).v) rfl
 rw[hK]at hf bdr
 rw[hK2]at hf2
 have hbS:=YL hf (Yi rtm bdr)
 have hfl:(dH S'.d (min m.r m.c)).length=rr:=Qp6 hF.d
 obtain⟨P,hP⟩:∃ P,P=XS (gM m.c m.c S'.v) 0 rr m.c (m.c-rr):=⟨_,rfl⟩
 have rtP:cO P:=hP▸Xg oq oq
 rw[← hP]at hf2 bdP0
 have bdP:cZ (K2+1) P:=hK2▸bdP0
 have Prc:P.r=m.c:=hP▸rfl
 obtain⟨r2,hF2⟩:=Qhr rtP hf2
 rw[← hm]at hR
 obtain⟨Na,hNa,Ea,rfl,hOa⟩:=hR
 obtain⟨Aa,ca,rfl⟩:=hOa.form
 refine⟨Na,hNa,?_⟩
 repeat' first|refine Q2 ?_|refine Qc fun _=>?_|refine Q2 ?_|apply jN
 rename_i b8
 refine JX.part (F':=[(8,.pointer (some ⟨b8,0,none⟩)),(7,.bool true),(2,.slice A1 L1.length c1)]) (H':=[(b8,.cells #[nv m.r,nv m.c,.slice Aa m.e.length ca] 26)]++(Na++[])) aF QK ?_
 apply QE
 repeat' first|apply jS|refine Q1 ?_|refine Q3 ?_|refine Qb ?_|apply jO
 refine Qf (A:=[_]) (B:=Na++[]) rfl aA rfl aH rfl (fun w hk hs=>Qq1 w _ L1.length m.c L1 (hv1.2.1.mono hk) hv1.2.2 oq) fun w v w' _ _ _ hR=>?_
 obtain⟨N1,hN1,bT⟩:=hR
 obtain⟨B1,k6,rfl⟩:=bT.form
 refine⟨N1,hN1,?_⟩
 repeat' first|refine Q0 ?_|apply jN
 obtain⟨xs,hxs⟩:∃ x,x=Q4w L1 L1.length 1099511627776 m.c:=⟨_,rfl⟩
 have lx:xs.length=m.c:=hxs▸Qhg _ _ _ _
 have bx:fK 6 xs:=hxs▸Qkr _ _ _ _ dq
 rw[← hxs]at bT
 refine JX.part (F':=[(9,.slice B1 m.c k6),(8,.pointer (some ⟨b8,0,none⟩)),(7,.bool true)]) (H':=[(b8,.cells #[nv m.r,nv m.c,.slice Aa m.e.length ca] 26)]++(N1++(Na++[]))) aF QK ?_
 apply QE
 repeat' first|apply jS|refine Q1 ?_|refine Q7 ?_|apply jO
 refine Qf (A:=[_]) (B:=N1++(Na++[])) rfl aA rfl aH rfl (fun w hk hs=>Qem 1 6 w _ _ m xs rtm oq lx.symm dq bdm bx ⟨_,rfl,hOa.rd.at hk hs Q6⟩ (by rw[lx];exact bT.rd.at hk hs Q6)) fun w v w' _ _ _ hR=>?_
 obtain⟨N2,E2,fA,rfl,hO2⟩:=hR
 rw[Q7o,Yk]at hO2
 obtain⟨B2,k7,rfl⟩:=hO2.form
 refine⟨N2,fA,?_⟩
 repeat' first|refine Q1 ?_|refine Q0 ?_|refine Qv (h:=?_)|apply jN
 have bb:fK 8 (bI m xs):=fun i=>Y6 ((Q0w rtm bdm bx) i) dq
 have hw:=Q8l hF xs
 have hsol:=Qjq hF (xs:=xs)
 have lb:(bI m xs).length=m.r:=Yk m xs
 obtain⟨ss,hss⟩:∃ s,s=solV S' m.r m.c (bI m xs):=⟨_,rfl⟩
 have ls:ss.length=m.c:=by rw[hss];exact hsol.1
 have bs:fK (K+1+(K+1+8+1)+1) ss:=by
  rw[hss]
  have hUr:cO (gM m.r m.r S'.u):=Wt hF.c.dm.u rtm.r rtm.r
  have hVr:cO (gM m.c m.c S'.v):=Wt hF.c.dm.v rtm.c rtm.c
  exact Q0w (K:=K+1) (L:=K+1+8+1) hVr (Xz hF.c.dm.v hbS.v rtm.c rtm.c) (Qfn (Q0w (K:=K+1) (L:=8) hUr (Xz hF.c.dm.u hbS.u rtm.r rtm.r) bb))
 rw[← hss]at hsol
 obtain⟨yb,hyb⟩:∃ y,y=bI m xs:=⟨_,rfl⟩
 rw[← hyb]at hO2 bb hsol hw lb
 refine JX.part (F':=[(11,.bool true),(10,.slice B2 m.r k7),(9,.slice B1 m.c k6),(8,.pointer (some ⟨b8,0,none⟩)),(7,.bool true)]) (H':=[(b8,.cells #[nv m.r,nv m.c,.slice Aa m.e.length ca] 26)]++(N2++(N1++(Na++[])))) aF QK ?_
 apply QE
 repeat' first|apply jS|apply jO|refine Q1 ?_|refine QV (h:=?_)|apply jN
 apply QE
 repeat' first|apply jK|refine Q4 rfl ?_
 refine JX.part (F':=[(10,.slice B2 m.r k7),(9,.slice B1 m.c k6),(8,.pointer (some ⟨b8,0,none⟩)),(7,.bool true)]) (H':=[(b8,.cells #[nv m.r,nv m.c,.slice Aa m.e.length ca] 26)]++(N2++(N1++(Na++[])))) aF QK ?_
 apply QE
 repeat' first|apply jS|refine Q1 ?_|refine Q7 ?_|apply jO
 refine Qf (A:=[_]) (B:=N2++(N1++(Na++[]))) rfl aA rfl aH rfl (fun w hk hs=>Q8b K fc 5 8 w _ _ m yb S' rtm ⟨_,rfl,hOa.rd.at hk hs Q6⟩ (hO2.rd.at hk hs Q6) oq bdr bb hf hw) fun w v w' _ _ _ hR=>?_
 obtain⟨N3,E3,hN3,rfl,hO3⟩:=hR
 rw[hyb, ← hss]at hO3
 obtain⟨B3,k8,rfl⟩:=hO3.form
 refine⟨N3,hN3,?_⟩
 repeat' first|refine Q1 ?_|refine Q0 ?_|refine Qv (h:=?_)|apply jN
 refine JX.part (F':=[(13,.bool true),(12,.slice B3 m.c k8),(10,.slice B2 m.r k7),(9,.slice B1 m.c k6),(8,.pointer (some ⟨b8,0,none⟩)),(7,.bool true)]) (H':=[(b8,.cells #[nv m.r,nv m.c,.slice Aa m.e.length ca] 26)]++(N3++(N2++(N1++(Na++[]))))) aF QK ?_
 apply QE
 repeat' first|apply jS|refine Q1 ?_|refine Q7 ?_|refine QV (h:=?_)|apply jO
 refine Q5 aA rfl aH rfl (fun w hk hs=>Qsj 1 (K+1+(K+1+8+1)+1) w _ _ _ m ss yb rtm ⟨_,rfl,hOa.rd.at hk hs Q6⟩ (by rw[ls];exact hO3.rd.at hk hs Q6) (by rw[lb];exact hO2.rd.at hk hs Q6) oq oq oq bdm bs (fun i=>Y6 (bb i) oq)) fun w v w' _ _ _ hR=>?_
 obtain rfl:=Q9h hR hsol
 repeat' first|refine Q1 ?_|refine Zv (h:=?_)|refine QC (h:=?_)|refine QV (h:=?_)|(refine Ze (h1:=?_) (h2:=?_)<;>intro hc<;>try omega)|apply jN
 apply QE
 repeat' first|apply jK|refine Q4 rfl ?_
 refine JX.part (F':=[(12,.slice B3 m.c k8),(10,.slice B2 m.r k7),(9,.slice B1 m.c k6),(8,.pointer (some ⟨b8,0,none⟩)),(7,.bool true)]) (H':=[(b8,.cells #[nv m.r,nv m.c,.slice Aa m.e.length ca] 26)]++(N3++(N2++(N1++(Na++[]))))) aF QK ?_
 apply QE
 repeat' first|apply jS|refine Q1 ?_|refine Zv (h:=?_)|apply jO
 refine Yv rfl rfl rfl rfl rfl oq oq (fun by1=>?_)
 have h0:=Xc by1 m.c (by simp only[maxLen];omega)
 repeat' first|refine Q0 ?_|apply jN
 refine JX.part (F':=[(14,.slice (some ⟨by1,0,none⟩) m.c m.c),(12,.slice B3 m.c k8),(10,.slice B2 m.r k7),(9,.slice B1 m.c k6),(8,.pointer (some ⟨b8,0,none⟩)),(7,.bool true)]) (H':=[(b8,.cells #[nv m.r,nv m.c,.slice Aa m.e.length ca] 26)]++([(by1,.cells (Z1 #[.bool false,.string ⟨#[]⟩] (m.c*2)) 35)]++(N3++(N2++(N1++(Na++[])))))) aF QK ?_
 apply QE
 repeat' first|apply jS|apply jO|refine Q1 ?_|refine Zv (h:=?_)|apply jN
 have hr1:=aG.rd (c:=⟨Tryz.prog,102,w0,[],by simp⟩) bT
 have hr3:=aG.rd (c:=⟨Tryz.prog,102,w0,[],by simp⟩) hO3
 apply QE
 repeat' first|apply jB
 refine Qp (ι:=Nat × aj) ⟨fun z=>[(64,nv z.1),(63,nv m.c),(14,.slice (some ⟨by1,0,none⟩) m.c m.c),(12,.slice B3 m.c k8),(10,.slice B2 m.r k7),(9,.slice B1 m.c k6),(8,.pointer (some ⟨b8,0,none⟩)),(7,.bool true)],fun z=>[(b8,.cells #[nv m.r,nv m.c,.slice Aa m.e.length ca] 26)]++(z.2++(N3++(N2++(N1++(Na++[]))))),fun z=>z.1≤m.c∧aG z.2 (.slice (some ⟨by1,0,none⟩) m.c m.c) m.c (tab m.c fun i=>if i<z.1 then xs.getD i 0-ss.getD i 0 else 0),fun z=>m.c-z.1⟩ (0,_) ⟨by omega,by simpa using h0⟩ aF (HSub.refl _) (fun z hz=>?_)
 obtain⟨k,Nd⟩:=z
 obtain⟨hkn,hOd⟩:=hz
 dsimp only at hkn hOd ⊢
 by_cases hlt:k<m.c
 ·repeat' first|apply jS|apply jO|apply jN|apply jT|refine Q1 ?_|refine Q0 ?_|(refine Qs (h1:=?_) (h2:=?_)<;>intro hc<;>try omega)|apply jK|refine Q8 rfl ?_|apply jB
  refine Z7 ([(b8,.cells #[nv m.r,nv m.c,.slice Aa m.e.length ca] 26)]++(N3++N1)) (ZX (N:=[_]) (Qr (ZX (Qr QI)))) ?_
  repeat' first|refine Q1 ?_|refine Zn (h:=?_)|refine XD (h:=?_)|fail
  refine Q5 aA rfl aH rfl (fun w hk hs=>Qmy w _ _ (xs.getD k 0) (ss.getD k 0) (K+1+(K+1+8+1)+1) (Qi (Y6 (bx k) oq)) (Qi (bs k)) oq) fun w v w' _ _ _ hR=>?_
  subst hR
  repeat' first|refine Zn (h:=?_)|fail
  refine Q27 (A:=[_]) hOd rfl rfl aA rfl rfl hlt (fun N' aU=>?_)
  rw[Qfi (f:=fun i=>xs.getD i 0-ss.getD i 0) hlt]at aU
  repeat' first|apply jO|apply jN|apply jT|refine Q1 ?_|refine Qj ?_|apply jW
  exact Qa (k+1,N') ⟨by dsimp only;omega,aU⟩ aY aF (HSub.refl _)
 ·repeat' first|apply jS|apply jO|apply jN|apply jT|refine Q1 ?_|refine Q7 ?_|(refine Qs (h1:=?_) (h2:=?_)<;>intro hc<;>try omega)|apply jU|apply jE|refine Q4 rfl ?_|apply Qe
  obtain rfl:k=m.c:=by omega
  refine Q5 aA rfl aH rfl (fun w hk hs=>Qiz K fc 5 8 w _ _ m yb S' rtm ⟨_,rfl,hOa.rd.at hk hs Q6⟩ (hO2.rd.at hk hs Q6) oq bdr bb hf hw) fun w v w' _ _ _ hR=>?_
  subst hR
  repeat' first|apply jS|apply jO|apply jN|refine Q1 ?_|refine Q0 ?_|refine Q7 ?_|refine Qv (h:=?_)|refine Q2 ?_|refine Qc fun _=>?_|refine Q2 ?_|apply jT
  rename_i b17
  refine Qf (A:=[_,_]) (B:=Nd++(N3++(N2++(N1++(Na++[]))))) rfl aA rfl aH rfl (fun w hk hs=>Qdr K fc 5 w _ m S' rtm ⟨_,rfl,hOa.rd.at hk hs Q6⟩ oq bdr hf) fun w v w' _ _ _ hR=>?_
  rw[hfl, ← hP]at hR
  obtain⟨Nk,hNk,Ek,rfl,hOk⟩:=hR
  obtain⟨Ak,ck,rfl⟩:=hOk.form
  refine⟨Nk,hNk,?_⟩
  obtain⟨ds,hds⟩:∃ d,d=tab m.c fun i=>if i<m.c then xs.getD i 0-ss.getD i 0 else 0:=⟨_,rfl⟩
  have ld:ds.length=m.c:=hds▸W6 _ _
  have hdat:∀ j,j<m.c→ds.getD j 0=xs.getD j 0-ss.getD j 0:=fun j hj=>by rw[hds,Zq hj,if_pos hj]
  obtain⟨zs,hzs⟩:=Qoy hF ld (Qp9 (hyb▸hsol) hdat)
  rw[← hP]at hzs
  have hw2:YC (gM P.r P.c S2.d) (bI (gM P.r P.r S2.u) ds)=none:=hzs▸Q8l hF2 zs
  have bd:fK (K+1+(K+1+8+1)+1+1) ds:=fun i=>by
   by_cases hi:i<m.c
   ·rw[hdat i hi];exact Qsg (Y6 (bx i) oq) (bs i)
   ·rw[List.getD,List.getElem?_eq_none oq];exact bG _
  rw[← hds]at hOd
  repeat' first|refine Q1 ?_|fail
  refine Qf (A:=[_,_]) (B:=Nk++(Nd++(N3++(N2++(N1++(Na++[])))))) rfl aA rfl aH rfl (fun w hk hs=>Q8b K2 1 1 (K+1+(K+1+8+1)+1+1) w _ _ P ds S2 rtP ⟨_,rfl,hOk.rd.at hk hs Q6⟩ (by rw[Prc];exact hOd.rd.at hk hs Q6) oq bdP bd hf2 hw2) fun w v w' _ _ _ hR=>?_
  obtain⟨N7,E7,hN7,rfl,hO7⟩:=hR
  obtain⟨B7,k9,rfl⟩:=hO7.form
  refine⟨N7,hN7,?_⟩
  repeat' first|apply jS|apply jO|apply jN|apply jT|refine Q1 ?_|refine Q0 ?_|refine QD (h:=?_)|refine QV (h:=?_)|refine Qv (h:=?_)|apply jR
  exact Qn rfl (fun a w' st=>⟨st.kp,rfl⟩)

end Go.Proofs.YtljmapfihjkafaaGreatDoor

/-
 LawLatticeBuilt: for every input the call of 'cocycle/cocyclelaw04.LatticeBuilt' returns true,and every argument reads afterwards as it read before. Conditions: none. The card.
-/
namespace Go.Proofs.YtljmapfihjkafaaGreatDoor.latticeBuilt
open Go Go.RowKit Go.ChangeShapes Go.WideShapes Go.ChangeAt

set_option maxRecDepth 100000 in
theorem lifted (os:Os) (started:os.Started) (H:Type) (enc:TypeId × Value→H) :
  ReturnsInHanded {} Tryz.checked os 8 .any (fun w args=>(Rows.latticeBuiltSpec.pre enc Tryz.prog Tryz.f8 [] false w args∧laidMetH Tryz.prog Rows.latticeBuiltRow.laid w)∧sizedMet enc Tryz.prog Tryz.f8 (OpenSpec.ofChange Rows.latticeBuiltSpec) false w args)
   (Rows.latticeBuiltSpec.post enc Tryz.prog Tryz.f8 false true false false):=by
 refine returnsInHanded_of_change_and (C:=Tryz.checked) (X:=fun w _=>laidMetH Tryz.prog Rows.latticeBuiltRow.laid w) (fun _ _ _ hh h=>h.of_heap hh) own started (by kernel_rfl) Tryz.func8
  (ChangeSpec.witness_shaped (enc := enc) (C := Tryz.checked) (os := os) (X := fun w _ => laidMetH Tryz.prog Rows.latticeBuiltRow.laid w) false (World.laidAll Tryz.prog os Rows.latticeBuiltRow.laid) #[.slice none 0 0, .int .i64 0, .slice none 0 0] 8 (World.laidAll_os _ _ _)
   (World.shaped_of_ZipB (by kernel_rfl) (by kernel_rfl)) (by kernel_rfl) (by kernel_rfl) (by kernel_rfl)
   (by rw[MakeChecks.laidMetH_plain _ _ _ (by kernel_rfl)];exact laidMet_laidAll _ (by kernel_rfl) (by kernel_rfl))) ?_
 intro W base args ds gs before hval0 hW _ hwt0 hL _
 have hval:∀ (j:Nat) t v,Tryz.f8.params[j]?=some t→args[j]?=some v→Value.okWide Tryz.prog W .any base t v:=hval0
 have hW':=hW
 obtain⟨p,q,hA0,hV,rfl,hfz,hnd⟩:=hW
 have hA:DataW.TrodAll enc Tryz.prog W 0 (fun _=>true) true Tryz.f8.params.toList args.toList ds p:=hA0
 have hwt:(DataW.weightsEach Tryz.prog (Tryz.f8.params.toList++Rows.latticeBuiltSpec.plain.varTypes Tryz.prog) (ds++gs)).all (· ≤ reachBytes)=true:=hwt0
 have hwt1:=fun n hn=>of_decide_eq_true (List.all_eq_true.1 hwt n hn)
 rw[Tryz.params8]at hA hval hwt1
 obtain⟨v0,vs0,d0,ds0,p0,q0,hargs,rfl,rfl,h0,r0⟩:=trodAll_cons hA
 obtain⟨v1,vs1,d1,ds1,p1,q1,rfl,rfl,rfl,h1,r1⟩:=trodAll_cons r0
 obtain⟨v2,vs2,d2,ds2,p2,q2,rfl,rfl,rfl,h2,r2⟩:=trodAll_cons r1
 obtain⟨rfl,rfl,rfl⟩:=trodAll_nil r2
 obtain rfl:args=#[v0,v1,v2]:=by cases args;simp_all
 obtain⟨rfl,rfl⟩:=trodVars_none hV
 have k0:=h0
 have lt0:∀ x∈p0,x.block<W.heap.size:=by obtain⟨m,hm⟩:=k0;exact DataW.trod_lt m _ _ _ hm
 obtain⟨X0,s0⟩:=Qef (hval 0 22 v0 rfl rfl) h0
 have k1:=h1
 have lt1:∀ x∈p1,x.block<W.heap.size:=by obtain⟨m,hm⟩:=k1;exact DataW.trod_lt m _ _ _ hm
 obtain⟨x1,rfl,rfl,rfl,wx1⟩:=open_int Tryz.underlying3 (hval 1 3 v1 rfl rfl) h1
 have s1:=Qs6 wx1
 have k2:=h2
 have lt2:∀ x∈p2,x.block<W.heap.size:=by obtain⟨m,hm⟩:=k2;exact DataW.trod_lt m _ _ _ hm
 obtain⟨L2,s2⟩:=Qh3 (hval 2 48 v2 rfl rfl) h2
 clear hA0 hval0
 refine(Q5p W v0 X0 x1 v2 L2 s0 s2).mono fun e W' he=>?_
 cases e with
 | panicked _=>exact he.elim
 | outgrown=>exact he.elim
 | returned u =>
  obtain⟨hk,rfl⟩:=he
  have bel:Below W.heap.size W W':=⟨hk.os,hk.tape,hk.output,hk.size,fun k hk2=>hk.block k hk2 au⟩
  exact⟨_,rfl,_,_,_,[],_,[],hW',trodAll_mk1 (shut_bool Tryz.underlying4 _),(trodAll_cons_mk (Below.trod Qav (by kernel_rfl) (of_decide_eq_true (by kernel_rfl)) k0 bel lt0) (trodAll_cons_mk (Below.trod Qav (by kernel_rfl) (of_decide_eq_true (by kernel_rfl)) k1 bel lt1) (trodAll_cons_mk (Below.trod Qav (by kernel_rfl) (of_decide_eq_true (by kernel_rfl)) k2 bel lt2) trodAll_mk0))),rfl,bel.frame _,fun h=>by cases h⟩

theorem holds:Rows.LatticeBuiltSaid :=
 OpenClaim.holds_of_wide 8 Tryz.f8 rfl rfl rfl rfl rfl rfl rfl ⟨rfl,rfl,rfl,rfl,rfl⟩ rfl rfl rfl rfl rfl (by kernel_rfl) Tryz.func8 (by kernel_rfl)
  (of_decide_eq_true (by kernel_rfl)) (by unfold Func.isWrapper;first|(rw[if_pos (by decide +kernel)];kernel_rfl)|(rw[if_neg (by decide +kernel)];exact⟨rfl,rfl⟩))
  (fun os started H enc _=>lifted os started H enc)

theorem proved:Rows.LatticeBuiltCardSaid :=
 Claim7.holds_tied_plain_at .later [] [.data,.pinned] true (true, "2a55c8c770411d0033a71932175e8e630641c3bf870bcb95329879352daafdde") false holds (fun _ h=>by cases h) (by kernel_rfl) (fun _ h=>by cases h) latticeBuilt_row_tie rfl ⟨rfl,rfl⟩ (by kernel_rfl) rfl
  (fun f fn hf hfn => by
   obtain rfl:f=8:=Option.some.inj ((show Tryz.prog.funcNamed "cocycle/cocyclelaw04.LatticeBuilt" = some 8 by kernel_rfl).symm.trans hf) |>.symm
   obtain rfl:fn=Tryz.f8:=(Option.some.inj (Tryz.func8.symm.trans hfn)).symm
   exact⟨by kernel_rfl,fun j t ht=>by
    rw[Tryz.params8]at ht
    have hm:t∈[22,3,48]:=by simpa using Array.mem_of_getElem? ht
    have hall:([22,3,48].all fun u=>!Tryz.prog.wantsStandIn u)=true:=by kernel_rfl
    exact(show Tryz.prog.wantsStandIn t=false by simpa using List.all_eq_true.1 hall t hm)⟩)
  (by kernel_rfl)

end Go.Proofs.YtljmapfihjkafaaGreatDoor.latticeBuilt

