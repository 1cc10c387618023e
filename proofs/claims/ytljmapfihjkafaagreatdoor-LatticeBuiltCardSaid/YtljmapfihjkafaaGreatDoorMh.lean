import Derived.Test.YtljmapfihjkafaaGreatDoorMg
set_option maxHeartbeats 16000000
namespace Go.Proofs.YtljmapfihjkafaaGreatDoor
open Go Go.RowKit
set_option linter.unusedSimpArgs false
set_option linter.unusedVariables false
set_option linter.unusedSectionVars false

theorem Qip (w:World) (r c k cap:Nat) (A:Option Addr):Calls Tryz.prog 99 #[.agg #[nv r,nv c,.slice A k cap]] w (aP fun v w'=>Kp [] w w'∧∃ bx,v=.func (.func 136) #[] #[.pointer (some ⟨bx,0,none⟩)]∧New [(bx,.cells #[nv r,nv c,.slice A k cap] 26 (0,0))] w w'):=by
 refine Q9 [] [] au [] Tryz.func99 rfl mixed (by kernel_rfl) Tryz.ntmps99 Tryz.results99 rfl ⟨by simp,by simp⟩ au ?_
 simp only[toS,Qd,Qt,Qk,Ql,ay,Qg,QA,aC]
 repeat' first|apply jS|apply jO|apply jN|apply jT|refine Q0 ?_|refine QB fun _=>?_|refine XO (h:=?_)|apply jR
 exact Qn rfl (fun a w' st=>⟨st.kp,_,rfl,st.aS rfl HSub.hd⟩)

theorem Qbk {w:World} {v:Value} {n:Nat} {zs:List Int} (h:WZ w v n zs) (hn:0<n):(dU v 0).block<w.heap.size:=by
 have hl:(iE (zs.map wz)).length=n*2:=h.1
 obtain⟨_,A,cap,rfl,_,hA⟩:=h
 obtain⟨_,h2⟩:=hA hn
 have h3:=h2 0 _ (List.getElem?_eq_getElem oq)
 exact Xd h3
theorem Q79 {wb:World} {c2:Cx} {v:Value} {n:Nat} {zs:List Int} (hv:WZ wb v n zs) (hk:Kp [] wb c2.w0) (hge:∀ k∈c2.M,wb.heap.size≤k) (N:aj):jG c2 N v n zs :=
 Qsu (hv.mono hk) (fun hn hm=>by have:=Qbk hv hn;have:=hge _ hm;omega) N
theorem Q4x {H:aj} {n:Nat} (h:∀ p∈H,n≤p.1):∀ k∈keys H,n≤k:=fun k hk=>by
 obtain⟨p,hp,rfl⟩:=List.mem_map.1 hk
 exact h p hp

def dh (m:ZM) (i:Nat):List Int:=(m.e.drop (i*m.c)).take m.c
theorem Q19 {m:ZM} {i j:Nat} (hj:j<m.c):(dh m i).getD j 0=m.at i j:=Qg9 hj
theorem WK {m:ZM} {i:Nat} (hm:cO m) (hi:i<m.r):(dh m i).length=m.c:=by
 unfold dh
 rw[List.length_take,List.length_drop,hm.len]
 have:=Q3u (c:=m.c) hi
 rw[Vo]at this;omega
theorem Q3i {m:ZM} {i:Nat} (hm:cO m) (hi:i<m.r):dh m i=tab m.c (m.at i):=by
 refine Q42 (WK hm hi) (fun j hj=>?_)
 rw[Xj (d:=0) (by rw[WK hm hi];exact hj),Q19 hj]

theorem Qex {w:World} {A:Option Addr} {n cap:Nat} {zs:List Int} (h:WZ w (.slice A n cap) n zs):n≤cap:=by
 obtain⟨_,A',cap',he,h,_⟩:=h
 cases he
 exact h
theorem Qg8 {w:World} {m:ZM} {A:Option Addr} {cap i:Nat} (hm:cO m) (h:WZ w (.slice A (m.r*m.c) cap) (m.r*m.c) m.e) (hi:i<m.r):WZ w (iT A cap m.c i) m.c (dh m i):=by
 have hrow:=Q3u (c:=m.c) hi
 have e1:(i+1)*m.c-i*m.c=m.c:=by rw[Vo];omega
 have e2:(i+1)*m.c=i*m.c+m.c:=by rw[Vo];omega
 have hlen:=WK hm hi
 obtain⟨hl,A',cap',he,hcap,hA⟩:=h
 simp only[Value.slice.injEq]at he
 obtain⟨rfl,_,rfl⟩:=he
 refine⟨by rw[Q1y,List.length_map,hlen],_,_,by unfold iT;rw[e1],by omega,fun hc=>?_⟩
 obtain⟨⟨b,o,rfl⟩,h2⟩:=hA oq
 have hne:cap≠i*m.c:=by omega
 rw[if_neg hne]
 refine⟨⟨b,o+i*m.c*2,by simp[Zr]⟩,fun j u hu=>?_⟩
 have hx:iE ((dh m i).map wz)=((iE (m.e.map wz)).drop (i*m.c*2)).take (m.c*2):=by
  unfold dh
  rw[List.map_take,List.map_drop, ← Q3d, ← Q3e]
 rw[hx,List.getElem?_take]at hu
 split at hu
 ·rw[List.getElem?_drop]at hu
  have:=h2 _ u hu
  unfold iT
  rw[if_neg hne]
  simpa [Nat.add_assoc,Zr,dU] using this
 ·cases hu

theorem Qdt (w:World) (v:Value) (n:Nat) (xs:List Int) (hv:WZ w v n xs) (hn:n≤1000000) :
  Calls Tryz.prog 75 #[v] w (aP fun u w'=>Kp [] w w'∧∃ N,New N w w'∧aG N u n xs):=by
 obtain⟨A,cap,rfl⟩:=hv.form
 cases A with
 | none =>
  have h0:n=0∧xs=[]:=by
   have h1:=hv.len
   rcases Nat.eq_zero_or_pos n with h|h
   ·subst h;exact⟨rfl,List.eq_nil_of_length_eq_zero h1⟩
   ·obtain⟨_,A,cap',he,_,hA⟩:=hv
    cases he
    obtain⟨⟨_,_,h2⟩,_⟩:=hA oq
    cases h2
  obtain⟨rfl,rfl⟩:=h0
  refine Q9 [] [] au [] Tryz.func75 rfl mixed (by kernel_rfl) Tryz.ntmps75 Tryz.results75 rfl ⟨by simp,by simp⟩ au ?_
  simp only[toS,Qd,Qt,Qk,Ql,ay,Qg,QA,aC]
  repeat' first|apply jS|apply jO|apply jN|apply jT|refine Q1 ?_|refine Q0 ?_|refine Q7g (h:=?_)|apply jV|apply jR|refine Q8 rfl ?_
  exact Qn rfl (fun a w' st=>⟨st.kp,[],New.nil _ _,aG.nil⟩)
 | some ad =>
  refine Q9 [] [] au [] Tryz.func75 rfl mixed (by kernel_rfl) Tryz.ntmps75 Tryz.results75 rfl ⟨by simp,by simp⟩ au ?_
  simp only[toS,Qd,Qt,Qk,Ql,ay,Qg,QA,aC]
  repeat' first|apply jS|apply jO|apply jN|apply jT|refine Q1 ?_|refine Q0 ?_|refine Q7g (h:=?_)|apply jK|refine Q4 rfl ?_
  refine We rfl rfl rfl (fun b=>?_)
  repeat' first|refine Q1 ?_|fail
  have hO:aG [(b,.cells #[] 35)] (.slice (some ⟨b,0,none⟩) 0 0) 0 []:=by
   have:=aB.mk' (e:=35) (sz:=2) (n:=0) (b:=b) (cs:=#[]) rfl (by simp only[maxLen];omega)
   exact this
  refine Y3 (A:=[]) hO (WZ.rd hv rfl []) Q6 rfl trivial rfl rfl rfl rfl oq (fun v' N' aU=>?_)
  rw[Vu,Vv]at aU
  repeat' first|apply jN|apply jT|refine Q0 ?_|apply jR
  exact Qn rfl (fun a w' st=>⟨st.kp,N',st.aS rfl Q6,aU⟩)


theorem Qe3 {n k:Nat} {f g:Nat→Int}:tab n f++tab k g=tab (n+k) fun j=>if j<n then f j else g (j-n):=by
 refine Q42 (by simp[tab]) (fun i hi=>?_)
 rw[List.getElem?_append]
 by_cases h:i<n
 ·rw[if_pos (by simpa [tab] using h),if_pos h,W7 h]
 ·rw[if_neg (by simpa [tab] using h),if_neg h]
  have:(tab n f).length=n:=by simp[tab]
  rw[this,W7 oq]
theorem Q72 (c:Nat) (g:Mi):∀ r,gu r c g=(List.range r).flatMap fun i=>tab c (g i)
 | 0=>by simp[gu,tab]
 | r + 1 => by
  rw[List.range_succ,List.flatMap_append, ← Q72 c g r]
  refine Qqf (r:=r+1) (c:=c) (Q41 _ _ _) (by simp[Q41,tab,Vo]) (fun i j hi hj=>?_)
  rw[Q2j hi hj]
  unfold enz
  simp only[List.getD,List.getElem?_append,Q41,List.flatMap_cons,List.flatMap_nil,Vj]
  by_cases h:i<r
  ·rw[if_pos (Q0z h hj)]
   have:=Qfc (g:=g) h hj
   simp only[List.getD]at this
   exact this.symm
  ·obtain rfl:i=r:=by omega
   rw[if_neg oq,show i*c+j-i*c=j by omega,W7 hj]
   rfl

def Q9g (m n:ZM) (pre:List Nat):List Int:=pre.flatMap fun i=>dh m i++dh n i
theorem Qeh (m n:ZM) (pre:List Nat) (i:Nat):Q9g m n (pre++[i])=Q9g m n pre++dh m i++dh n i:=by simp[Q9g]
theorem Qhi {m n:ZM} (hm:cO m) (hn:cO n) (hr:m.r=n.r):Q9g m n (List.range m.r)=(Qax m n).e:=by
 show Q9g m n (List.range m.r)=gu m.r (m.c+n.c) (fun i j=>if j<m.c then m.at i j else n.at i (j-m.c))
 rw[Q72]
 unfold Q9g
 have:∀ (l:List Nat),(∀ i∈l,i<m.r)→(l.flatMap fun i=>dh m i++dh n i)=l.flatMap fun i=>tab (m.c+n.c) fun j=>if j<m.c then m.at i j else n.at i (j-m.c):=fun l=>by
  induction l with
  | nil=>intro _;rfl
  | cons i l ih =>
   intro h
   have hi:=h i au
   rw[List.flatMap_cons,List.flatMap_cons,ih (fun j hj=>h j (by simp[hj])),Q3i hm hi,Q3i hn (hr▸hi),Qe3]
 exact this _ (fun i hi=>List.mem_range.1 hi)

def Q0o (m:ZM) (i0 j0 r c:Nat) (pre:List Nat):List Int:=pre.flatMap fun i=>if i0≤i∧i<i0+r then ((dh m i).drop j0).take c else []
theorem Qkj {m:ZM} {i0 j0 r c i:Nat} (pre:List Nat) (h:i0≤i∧i<i0+r):Q0o m i0 j0 r c (pre++[i])=Q0o m i0 j0 r c pre++((dh m i).drop j0).take c:=by simp[Q0o,h]
theorem Qh1 {m:ZM} {i0 j0 r c i:Nat} (pre:List Nat) (h:¬(i0≤i∧i<i0+r)):Q0o m i0 j0 r c (pre++[i])=Q0o m i0 j0 r c pre:=by simp[Q0o,h]
theorem Qgb {m:ZM} {i j0 c:Nat} (hm:cO m) (hi:i<m.r) (hj:j0+c≤m.c):((dh m i).drop j0).take c=tab c fun j=>m.at i (j0+j):=by
 have hl:=WK hm hi
 refine Q42 (by rw[List.length_take,List.length_drop,hl];omega) (fun j hj'=>?_)
 rw[List.getElem?_take_of_lt hj',List.getElem?_drop,Xj (d:=0) (by rw[hl];omega),Q19 oq]
theorem Qh2 {m:ZM} {i0 j0 r c:Nat} (hm:cO m) (hi:i0+r≤m.r) (hj:j0+c≤m.c):Q0o m i0 j0 r c (List.range m.r)=(XS m i0 j0 r c).e:=by
 show _=gu r c (fun a b=>m.at (i0+a) (j0+b))
 rw[Q72]
 have h0:List.range m.r=List.range i0++((List.range r).map (i0+·)++(List.range (m.r-(i0+r))).map (i0+r+·)):=by
  rw[← Vd, ← List.range_add, ← List.range_add]
  congr 1;omega
 have hz:∀ l:List Nat,(∀ i∈l,¬(i0≤i∧i<i0+r))→Q0o m i0 j0 r c l=[]:=fun l h=>by
  unfold Q0o
  rw[List.flatMap_eq_nil_iff]
  intro i hi
  rw[if_neg (h i hi)]
 have happ:∀ a b:List Nat,Q0o m i0 j0 r c (a++b)=Q0o m i0 j0 r c a++Q0o m i0 j0 r c b:=fun a b=>by unfold Q0o;rw[List.flatMap_append]
 rw[h0,happ,happ,hz (List.range i0) (fun i hi=>by have:=List.mem_range.1 hi;omega),hz ((List.range (m.r-(i0+r))).map (i0+r+·)) (fun i hi=>by obtain⟨k,_,rfl⟩:=List.mem_map.1 hi;omega),Vv,Vj]
 unfold Q0o
 rw[List.flatMap_map]
 have:∀ l:List Nat,(∀ i∈l,i<r)→(l.flatMap fun a=>if i0≤i0+a∧i0+a<i0+r then ((dh m (i0+a)).drop j0).take c else [])=l.flatMap fun a=>tab c fun j=>m.at (i0+a) (j0+j):=fun l=>by
  induction l with
  | nil=>intro _;rfl
  | cons a l ih =>
   intro h
   have ha:=h a au
   rw[List.flatMap_cons,List.flatMap_cons,ih (fun j hj=>h j (by simp[hj])),if_pos ⟨by omega,by omega⟩,Qgb hm oq hj]
 exact this _ (fun i hi=>List.mem_range.1 hi)

theorem Qsk (w:World) (v:Value) (m:ZM) (i0 j0 r c:Nat) (hm:cO m) (hi0:i0+r≤m.r) (hj0:j0+c≤m.c) (hv:fO w v m) :
  Calls Tryz.prog 50 #[v,nv i0,nv j0,nv r,nv c] w (aP fun v w'=>Kp [] w w'∧Q5m (XS m i0 j0 r c) true w v w'):=by
 have jI:=hv.x
 obtain⟨E,rfl,hE⟩:=hv
 have hl:=hm.len
 have hle:=hm.le
 have hbr:=hm.r
 have hbc:=hm.c
 rw[hl]at hE
 obtain⟨A,cap,rfl⟩:=hE.form
 have hcap:m.r*m.c≤cap:=Qex hE
 refine Xf 5 [⟨8,2,[],[]⟩] Tryz.func50 rfl mixed (by kernel_rfl) Tryz.ntmps50 au ?_
 simp only[toZ,Q39,Bool.or_false,Bool.false_or,Bool.or_self,Bool.true_or,cond_true,cond_false,toS,Qd,Qt,Qk,Ql,ay,Qg,QA,aC]
 repeat' first|apply jS|apply jO|apply jN|refine Q0 ?_|refine Q7 ?_|refine Qc fun _=>?_|refine QB fun _=>?_|refine Qod (h:=fun _=>?_)|apply jT
 rename_i b5 b6 b7 b8 b9 b10
 refine Q5 trivial rfl rfl rfl (fun w hk _=>YY w _ m.xm (jI.mono hk) (by simp[ZM.xm];omega)) fun w v w' _ _ _ hR=>?_
 obtain⟨b',rfl,hb⟩:=hR
 obtain rfl:=hb.2 hm.rx
 repeat' first|apply jS|apply jO|apply jN|apply jT|refine Q1 ?_|refine Q3 ?_|refine Qb ?_|refine Q7 ?_|refine Q7h (h:=?_)|(apply Qrb;(iterate 6 exact rfl);intro q hq1 hq2)|refine Wq (h:=?_)|refine QC (h:=?_)|refine QV (h:=?_)|refine Q2 ?_|(refine Qs (h1:=?_) (h2:=?_)<;>intro hc<;>try omega)|(refine Zg (h1:=?_) (h2:=?_)<;>intro hc<;>try omega)|refine Qc fun _=>?_|refine Q2 ?_|apply jK|refine Q4 rfl ?_
 rename_i b12
 refine Qf (A:=[]) rfl trivial rfl rfl rfl (fun w hk _=>Qip w m.r m.c (m.r*m.c) cap A) fun w v w' _ _ _ hR=>?_
 obtain⟨bx,rfl,hNx⟩:=hR
 refine⟨_,hNx,?_⟩
 repeat' first|apply jN|apply jT|apply jB
 have hbx:∀ (v:Value) (N:aj),(bx,Obj.cells #[nv m.r,nv m.c,.slice A (m.r*m.c) cap] 26 (0,0))∈([(bx,Obj.cells #[nv m.r,nv m.c,.slice A (m.r*m.c) cap] 26 (0,0)),(b12,.cells #[nv r,nv c,v] 26 (0,0)),(b10,.cells #[iv 0,iv 0,.slice none 0 0] 26 (0,0)),(b9,.cells (nv c).cells 3 (0,0)),(b8,.cells (nv r).cells 3 (0,0)),(b7,.cells (nv j0).cells 3 (0,0)),(b6,.cells (nv i0).cells 3 (0,0)),(b5,.cells #[nv m.r,nv m.c,.slice A (m.r*m.c) cap] 26 (0,0))]++(N++[])):=fun v N=>by simp
 refine Q5j (od:=[⟨8,2,[],[]⟩]) _ rfl mixed rfl rfl (enters_of Tryz.func136 (by kernel_rfl) rfl) (Q4f hbr hbc (V8 _) hcap)
  (fun pre H'=>∃ k v N,H'=[(bx,Obj.cells #[nv m.r,nv m.c,.slice A (m.r*m.c) cap] 26 (0,0)),(b12,.cells #[nv r,nv c,v] 26 (0,0)),(b10,.cells #[iv 0,iv 0,.slice none 0 0] 26 (0,0)),(b9,.cells (nv c).cells 3 (0,0)),(b8,.cells (nv r).cells 3 (0,0)),(b7,.cells (nv j0).cells 3 (0,0)),(b6,.cells (nv i0).cells 3 (0,0)),(b5,.cells #[nv m.r,nv m.c,.slice A (m.r*m.c) cap] 26 (0,0))]++(N++[])∧aG N v k (Q0o m i0 j0 r c pre)∧k≤pre.length*c)
  (by rintro pre _ ⟨k,v,N,rfl,_⟩;exact hbx v N) (by rintro pre _ ⟨k,v,N,rfl,hO,_⟩;exact(Cells.cons (Cells.cons (Cells.cons (Cells.cons (Cells.cons (Cells.cons (Cells.cons (Cells.cons (hO.cells.app Cells.nil)))))))))) _ ⟨0,.slice none 0 0,[],rfl,aG.nil,V9 _⟩ Qy
  (fun i _=>[(13,nv i),(14,iT A cap m.c i),(12,.pointer (some ⟨b12,0,none⟩)),(9,.pointer (some ⟨b9,0,none⟩)),(8,.pointer (some ⟨b8,0,none⟩)),(7,.pointer (some ⟨b7,0,none⟩)),(6,.pointer (some ⟨b6,0,none⟩))]) (fun _=>none) (fun _ _ h=>by cases h) rfl rfl (by kernel_rfl) (by kernel_rfl) rfl (fun _ _ h=>h) ?_ ?_ ?_
 ·intro l i W hW
  simp only[toB,Qd,Qt,Qk,Ql,ay,Qg,QA,eH,Vv,Vi]
  repeat' first|apply jS|apply jO|apply jN|refine Q0 ?_|apply jT
  exact Q6s rfl aF
 ·rintro l i pre _ _ W1 hM' hi hpl ⟨k,v,N,rfl,hO,hkl⟩ hl hln hkb hge
  simp only[toB,Qd,Qt,Qk,Ql,ay,Qg,QA,eH,Vv,Vi]
  have hrow:=Q79 (c2:=⟨Tryz.prog,83,W1,_,hM'⟩) (Qg8 hm hE hi) hkb (Q4x hge) []
  have hlr:=WK hm hi
  have hplc:pre.length*c≤40000:=Vr (show pre.length≤200 by omega) (show c≤200 by omega)
  have hpc1:(pre++[i]).length*c=pre.length*c+c:=by rw[Vk,Vs,Vo,Nat.one_mul]
  obtain⟨A2,c2,rfl⟩:=hO.form
  by_cases hin:i0≤i∧i<i0+r
  ·repeat' first|apply jS|apply jO|apply jN|apply jT|refine Q1 ?_|refine Qb ?_|refine Zf (h:=?_)|refine QD (h:=?_)|(refine Qs (h1:=?_) (h2:=?_)<;>intro hc<;>try omega)|(refine Yx (h1:=?_) (h2:=?_)<;>intro hc<;>try omega)|refine Q8 rfl ?_|apply jB
   refine Z7 [(b12,.cells #[nv r,nv c,.slice A2 k c2] 26 (0,0)),(b9,.cells (nv c).cells 3 (0,0)),(b7,.cells (nv j0).cells 3 (0,0))] Qy ?_
   repeat' first|refine Q1 ?_|refine Q3 ?_|refine Qb ?_|refine Zf (h:=?_)|fail
   refine Q7b (l:=j0) (h':=j0+c) rfl rfl rfl hrow rfl rfl (.inl rfl) rfl rfl (.inl rfl) oq oq (fun v3 hv3 _=>?_)
   rw[Nat.add_sub_cancel_left]at hv3
   skip
   refine WM (A:=[_,_,_,_,_,_,_,_]) hO hv3 Q6 rfl Qy rfl rfl rfl rfl oq (fun v4 N4 hO4=>?_)
   obtain⟨A4,c4,rfl⟩:=hO4.form
   repeat' first|apply jN|refine Q3 ?_|refine ZO (k:=_) (h:=?_)|apply jW
   rw[← Qkj pre hin]at hO4
   exact XX (H':=[(bx,Obj.cells #[nv m.r,nv m.c,.slice A (m.r*m.c) cap] 26 (0,0)),(b12,.cells #[nv r,nv c,.slice A4 (k+c) c4] 26 (0,0)),(b10,.cells #[iv 0,iv 0,.slice none 0 0] 26 (0,0)),(b9,.cells (nv c).cells 3 (0,0)),(b8,.cells (nv r).cells 3 (0,0)),(b7,.cells (nv j0).cells 3 (0,0)),(b6,.cells (nv i0).cells 3 (0,0)),(b5,.cells #[nv m.r,nv m.c,.slice A (m.r*m.c) cap] 26 (0,0))]++(N4++[])) ⟨k+c,_,N4,rfl,hO4,by omega⟩ (Cells.cons (Cells.cons (Cells.cons (Cells.cons (Cells.cons (Cells.cons (Cells.cons (Cells.cons (hO4.cells.app Cells.nil))))))))) (HSub.refl _)
  ·repeat' first|apply jS|apply jO|apply jN|apply jT|refine Q1 ?_|refine Qb ?_|refine Zf (h:=?_)|refine QD (h:=?_)|refine QC (h:=?_)|(refine Qs (h1:=?_) (h2:=?_)<;>intro hc<;>try omega)|(refine Yx (h1:=?_) (h2:=?_)<;>intro hc<;>try omega)|apply jK|refine Q4 rfl ?_|apply jB|refine QU (h:=?_)|apply jW
   all_goals
    rw[← Qh1 pre hin]at hO
    exact XX ⟨k,_,N,rfl,hO,by omega⟩ (Cells.cons (Cells.cons (Cells.cons (Cells.cons (Cells.cons (Cells.cons (Cells.cons (Cells.cons (hO.cells.app Cells.nil))))))))) (HSub.refl _)
 ·rintro D _ ⟨k,v,N,rfl,hO,hkl⟩ hD
  obtain⟨A2,c2,rfl⟩:=hO.form
  simp only[toS,Qd,Qt,Qk,Ql,ay,Qg,QA]
  repeat' first|apply jS|apply jO|apply jN|apply jT|refine Q0 ?_|refine Q7 ?_|refine Q2 ?_|refine Q2 ?_|apply jR
  rw[Qh2 hm hi0 hj0]at hO
  refine XW 0 rfl hD rfl ?_
  exact X8 2 rfl rfl rfl rfl (fun a w' st=>⟨st.kp,N,_,rfl,st.aS rfl (by exact HSub.skip (HSub.skip (HSub.skip (HSub.skip (HSub.skip (HSub.skip (HSub.skip (HSub.skip QI)))))))),fZ.mk' hO⟩)


abbrev TR:=aj × Value × List Int
def tH (ts:List TR):aj:=(ts.map (·.1)).flatten
theorem Q44 (a b:List TR):tH (a++b)=tH a++tH b:=by simp[tH]
theorem Qm0 (t:TR):tH [t]=t.1:=by simp[tH]
structure bY (N:aj) (v:Value) (c:Nat) (ts:List TR):Prop where
 outer:aB 24 1 N v ts.length (ts.map (·.2.1))
 rows:∀ t∈ts,aG t.1 t.2.1 c t.2.2
theorem bY.cells {N:aj} {v:Value} {c:Nat} {ts:List TR} (h:bY N v c ts):Cells (N++tH ts):=h.outer.cells'.app fun p hp=>by
 obtain⟨l,hl,hp⟩:=List.mem_flatten.1 hp
 obtain⟨t,ht,rfl⟩:=List.mem_map.1 hl
 exact(h.rows t ht).cells p hp
theorem bY.form {N:aj} {v:Value} {c:Nat} {ts:List TR} (h:bY N v c ts):∃ A cap,v=.slice A ts.length cap:=by
 obtain⟨_,⟨h1,h2,_⟩|⟨b,cap,cur,h1,_⟩⟩:=h.outer
 ·exact⟨none,0,by rw[h1,h2]⟩
 ·exact⟨_,_,h1⟩


def iU (ks:List Nat) (f:Nat→Int):Int:=(ks.map f).sum
theorem Q45 (ks:List Nat) (k:Nat) (f:Nat→Int):iU (ks++[k]) f=iU ks f+f k:=by simp[iU]
theorem Q5u (f:Nat→Int):∀ n,iU (List.range n) f=aN n f
 | 0=>rfl
 | n+1=>by rw[List.range_succ,Q45,Q5u f n,aN]
theorem Qfh {B:Nat} {f:Nat→Int} (h:∀ k,(f k).natAbs≤B):∀ ks:List Nat,(iU ks f).natAbs≤ks.length*B
 | []=>by simp[iU]
 | k::ks=>by
  have h1:=Qfh h ks
  have h2:=h k
  have h3:=Int.natAbs_add_le (f k) (iU ks f)
  have e:iU (k::ks) f=f k+iU ks f:=by simp[iU]
  rw[e,List.length_cons,Vo,Nat.one_mul]
  omega

def muF (m n:ZM) (pre:List Nat) (i:Nat) (ks:List Nat) (k j:Nat):Mi:=fun a b=>(pre.count a:Int)*bM m.c m.at n.at a b+if a=i then iU ks (fun t=>m.at i t*n.at t b)+(if b<j then m.at i k*n.at k b else 0) else 0
def jl (m n:ZM) (pre:List Nat) (i:Nat) (ks:List Nat) (k j:Nat):List Int:=gu m.r n.c (muF m n pre i ks k j)
def muE (m n:ZM) (pre:List Nat):List Int:=gu m.r n.c fun a b=>(pre.count a:Int)*bM m.c m.at n.at a b
theorem Qcx (m n:ZM):muE m n []=tab (m.r*n.c) fun _=>0:=by
 rw[← Q70]
 exact Z3 fun i j _ _=>by simp
theorem Q9c (m n:ZM) (pre:List Nat) (i k:Nat):jl m n pre i [] k 0=muE m n pre:=Z3 fun a b _ _=>by simp[muF,iU]
theorem Qor (m n:ZM) (pre:List Nat) (i:Nat) (ks:List Nat) (k k':Nat):jl m n pre i ks k 0=jl m n pre i ks k' 0:=Z3 fun a b _ _=>by simp[muF]
theorem Qh9 {m n:ZM} {pre ks:List Nat} {i k j:Nat} (hi:i<m.r) (hj:j<n.c):(jl m n pre i ks k j).set (i*n.c+j) (enz n.c (jl m n pre i ks k j) i j+m.at i k*n.at k j)=jl m n pre i ks k (j+1):=by
 have e:enz n.c (jl m n pre i ks k j) i j=muF m n pre i ks k j i j:=Q2j hi hj
 rw[e]
 unfold jl
 rw[Q71 hj]
 refine Z3 fun a b ha hb=>?_
 by_cases h:a=i∧b=j
 ·obtain⟨rfl,rfl⟩:=h
  simp only[muF,and_self,if_true,Nat.lt_irrefl,if_false,Nat.lt_succ_self]
  omega
 ·rw[if_neg h]
  simp only[muF]
  by_cases h1:a=i
  ·rw[if_pos h1,if_pos h1]
   have:(b<j+1)↔(b<j):=by
    have:¬b=j:=fun e=>h ⟨h1,e⟩
    omega
   simp only[this]
  ·rw[if_neg h1,if_neg h1]
theorem Qcu {m n:ZM} {pre ks:List Nat} {i k j:Nat} (h0:m.at i k*n.at k j=0):jl m n pre i ks k j=jl m n pre i ks k (j+1):=Z3 fun a b ha hb=>by
 simp only[muF]
 by_cases hb:b=j
 ·subst hb
  rw[if_neg (Nat.lt_irrefl b),if_pos (Nat.lt_succ_self b),h0]
 ·have:(b<j+1)↔(b<j):=by omega
  simp only[this]
theorem Qcv {m n:ZM} {pre ks:List Nat} {i k:Nat}:jl m n pre i ks k n.c=jl m n pre i (ks++[k]) 0 0:=Z3 fun a b ha hb=>by
 simp only[muF]
 rw[if_pos hb,Q45]
 simp
theorem Qcw {m n:ZM} {pre ks:List Nat} {i k:Nat} (h0:m.at i k=0):jl m n pre i ks 0 0=jl m n pre i (ks++[k]) 0 0:=Z3 fun a b ha hb=>by
 simp only[muF]
 rw[Q45,h0]
 simp
theorem Qha {m n:ZM} {pre:List Nat} {i:Nat}:jl m n pre i (List.range m.c) 0 0=muE m n (pre++[i]):=Z3 fun a b ha hb=>by
 simp only[muF]
 rw[List.count_append]
 by_cases h:a=i
 ·subst h
  rw[if_pos rfl,Q5u]
  simp only[List.count_singleton_self,Nat.not_lt_zero,if_false]
  show _+(bM m.c m.at n.at a b+0)=_
  simp only[Int.natCast_add,Int.add_mul]
  simp
 ·rw[if_neg h,List.count_singleton]
  have:(i == a)=false:=by simpa using fun e=>h e.symm
  simp[this]
theorem Qhb (m n:ZM):muE m n (List.range m.r)=(jH m n).e:=Z3 fun a b ha hb=>by
 have:(List.range m.r).count a=1:=by
  have h1:=List.nodup_iff_count.1 (List.nodup_range (n:=m.r)) a
  have h2:=List.count_pos_iff.2 (List.mem_range.2 ha)
  omega
 rw[this]
 simp
theorem Qmd {K L:Nat} {m n:ZM} {pre ks:List Nat} {i k j a b:Nat} (hc:m.c≤200) (hm:cZ K m) (hn:cZ L n) (hp:pre.length≤200) (hk:ks.length≤200):(muF m n pre i ks k j a b).natAbs<256 ^ (K+L+2):=by
 have hB:∀ t,(m.at i t*n.at t b).natAbs≤256 ^ (K+L):=fun t=>Nat.le_of_lt (X2 (hm.at i t) (hn.at t b))
 have h1:(bM m.c m.at n.at a b).natAbs≤200*256 ^ (K+L):=V0 (Qft (n:=m.c) (f:=fun t=>m.at a t*n.at t b) (B:=256 ^ (K+L)) (fun t _=>Nat.le_of_lt (X2 (hm.at a t) (hn.at t b)))) (V1 _ hc)
 have h2:((pre.count a:Int)*bM m.c m.at n.at a b).natAbs≤200*(200*256 ^ (K+L)):=by
  rw[Vq,Int.natAbs_natCast]
  exact Vr (V0 List.count_le_length hp) h1
 have h3:(iU ks (fun t=>m.at i t*n.at t b)).natAbs≤200*256 ^ (K+L):=V0 (Qfh hB ks) (V1 _ hk)
 have h4:=hB k
 have h5:=bG (K+L)
 have e:256 ^ (K+L+2)=65536*256 ^ (K+L):=by rw[Va,Va];omega
 rw[e]
 unfold muF
 generalize (pre.count a:Int)*bM m.c m.at n.at a b=x at h2 ⊢
 generalize iU ks (fun t=>m.at i t*n.at t b)=y at h3 ⊢
 generalize m.at i k*n.at k b=z at h4 ⊢
 generalize 256 ^ (K+L)=P at *
 split
 ·split<;>omega
 ·omega

theorem Qlo {N:aj} {A:Option Addr} {n cap:Nat} {xs:List WR} (h:dI N (.slice A n cap) n xs):∃ b,(0<n→A=some ⟨b,0,none⟩)∧n≤cap:=by
 obtain⟨_,⟨h1,h2,_⟩|⟨b,cap',cur,h1,_,h3,_⟩⟩:=h
 ·refine⟨0,fun h=>by omega,by omega⟩
 ·cases h1
  exact⟨b,fun _=>rfl,h3⟩

theorem Qqq {cx:Cx} {N:aj} {A A':Option Addr} {b n co c l k:Nat} {xs:List Int} (hO:aG N (.slice A n co) n xs) (hA0:0<n→A=some ⟨b,0,none⟩) (hA:0<c→A'=some ⟨b,0+l*2,none⟩) (hl:l+c≤n) (hc:c≤k):jG cx N (.slice A' c k) c ((xs.drop l).take c):=by
 have hlen:=hO.len
 obtain⟨_,_,_,he,_,h2⟩:=hO.rd (c:=cx)
 cases he
 refine⟨by rw[Q1y,List.length_map,List.length_take,List.length_drop];omega,_,_,rfl,hc,fun h0=>?_⟩
 obtain⟨_,h3⟩:=h2 oq
 obtain rfl:=hA h0
 obtain rfl:=hA0 oq
 refine⟨⟨_,_,rfl⟩,fun w hw j u hu=>?_⟩
 rw[List.map_take,List.map_drop, ← Q3d, ← Q3e,List.getElem?_take]at hu
 split at hu
 ·rw[List.getElem?_drop]at hu
  have:=h3 w hw _ u hu
  simpa [Nat.add_assoc,dU] using this
 ·cases hu

theorem aG.ty {N:aj} {v:Value} {n:Nat} {xs:List Int} (h:aG N v n xs):∀ p∈N,∃ cs fz,p.2=.cells cs 35 fz:=by
 obtain⟨_,⟨_,_,rfl⟩|⟨b,cap,cur,_,rfl,_⟩⟩:=h
 ·intro p hp;cases hp
 ·intro p hp;cases List.mem_singleton.1 hp;exact⟨_,_,rfl⟩


theorem Qn1 (K L:Nat) (w:World) (v u:Value) (m n:ZM) (hm:cO m) (hn:cO n) (hr:m.c=n.r) (hK:K+L≤29000000000000) (hx:cZ K m) (hy:cZ L n) (hv:fO w v m) (hu:fO w u n) :
  Calls Tryz.prog 58 #[v,u] w (aP fun v w'=>Kp [] w w'∧Q5m (jH m n) true w v w'):=by
 have jI:=hv.x
 have huX:=hu.x
 obtain⟨E,rfl,hE⟩:=hv
 obtain⟨E',rfl,hE'⟩:=hu
 have hl:=hm.len
 have hle:=hm.le
 have hl':=hn.len
 have hle':=hn.le
 have hbr:=hm.r
 have hbc:=hm.c
 have hbr':=hn.r
 have hbc':=hn.c
 have hrc:=rcZ hbr hbc'
 rw[hl]at hE
 rw[hl']at hE'
 obtain⟨A,cap,rfl⟩:=hE.form
 obtain⟨A',cap',rfl⟩:=hE'.form
 have hcap:m.r*m.c≤cap:=Qex hE
 have hcap':n.r*n.c≤cap':=Qex hE'
 refine Xf 5 [⟨16,2,[],[]⟩] Tryz.func58 rfl mixed (by kernel_rfl) Tryz.ntmps58 au ?_
 simp only[toZ,Q39,Bool.or_false,Bool.false_or,Bool.or_self,Bool.true_or,cond_true,cond_false,toS,Qd,Qt,Qk,Ql,ay,Qg,QA,aC]
 repeat' first|apply jS|apply jO|apply jN|refine Q0 ?_|refine Q7 ?_|refine Qc fun _=>?_|refine QB fun _=>?_|apply jT
 rename_i b2 b3 b4
 refine Q5 trivial rfl rfl rfl (fun w hk _=>YY w _ m.xm (jI.mono hk) (by simp[ZM.xm];omega)) fun w v w' _ _ _ hR=>?_
 obtain⟨b',rfl,hb⟩:=hR
 obtain rfl:=hb.2 hm.rx
 repeat' first|refine Q1 ?_|refine Q7 ?_|refine QV (h:=?_)|fail
 refine Q5 trivial rfl rfl rfl (fun w hk _=>YY w _ n.xm (huX.mono hk) (by simp[ZM.xm];omega)) fun w v w' _ _ _ hR=>?_
 obtain⟨b',rfl,hb⟩:=hR
 obtain rfl:=hb.2 hn.rx
 repeat' first|apply jS|apply jO|apply jN|apply jT|refine Q1 ?_|refine Q3 ?_|refine Qb ?_|refine QC (h:=?_)|refine QV (h:=?_)|(refine Ze (h1:=?_) (h2:=?_)<;>intro hc<;>try omega)|apply jK|refine Q4 rfl ?_
 refine Qf (A:=[_,_,_]) (B:=[]) rfl trivial rfl rfl rfl (fun w hk _=>Qdn m.r n.c hbr hbc' w) fun w v w' _ _ _ hR=>?_
 obtain⟨N,Eo,hN,rfl,hO⟩:=hR
 obtain⟨Ao,co,rfl⟩:=hO.form
 refine⟨N,hN,?_⟩
 repeat' first|apply jS|apply jO|apply jN|refine Q7 ?_|refine Q2 ?_|refine Qc fun _=>?_|refine Q2 ?_|apply jT
 rename_i b6
 refine Qf (A:=[]) rfl trivial rfl rfl rfl (fun w hk _=>Qip w m.r m.c (m.r*m.c) cap A) fun w v w' _ _ _ hR=>?_
 obtain⟨bx,rfl,hNx⟩:=hR
 refine⟨_,hNx,?_⟩
 repeat' first|apply jN|apply jT|apply jB
 obtain⟨b0,hAo,hco⟩:=Qlo hO
 have hbx:∀ (N:aj),(bx,Obj.cells #[nv m.r,nv m.c,.slice A (m.r*m.c) cap] 26 (0,0))∈([(bx,Obj.cells #[nv m.r,nv m.c,.slice A (m.r*m.c) cap] 26 (0,0)),(b6,.cells #[nv m.r,nv n.c,.slice Ao (m.r*n.c) co] 26 (0,0)),(b4,.cells #[iv 0,iv 0,.slice none 0 0] 26 (0,0)),(b3,.cells #[nv n.r,nv n.c,.slice A' (n.r*n.c) cap'] 26 (0,0)),(b2,.cells #[nv m.r,nv m.c,.slice A (m.r*m.c) cap] 26 (0,0))]++(N++[])):=fun N=>by simp
 refine Q5j (od:=[⟨16,2,[],[]⟩]) _ rfl mixed rfl rfl (enters_of Tryz.func136 (by kernel_rfl) rfl) (Q4f hbr hbc (V8 _) hcap)
  (fun pre H'=>∃ N,H'=[(bx,Obj.cells #[nv m.r,nv m.c,.slice A (m.r*m.c) cap] 26 (0,0)),(b6,.cells #[nv m.r,nv n.c,.slice Ao (m.r*n.c) co] 26 (0,0)),(b4,.cells #[iv 0,iv 0,.slice none 0 0] 26 (0,0)),(b3,.cells #[nv n.r,nv n.c,.slice A' (n.r*n.c) cap'] 26 (0,0)),(b2,.cells #[nv m.r,nv m.c,.slice A (m.r*m.c) cap] 26 (0,0))]++(N++[])∧aG N (.slice Ao (m.r*n.c) co) (m.r*n.c) (muE m n pre))
  (by rintro pre _ ⟨N,rfl,_⟩;exact hbx N) (by rintro pre _ ⟨N,rfl,hO⟩;exact(Cells.cons (Cells.cons (Cells.cons (Cells.cons (Cells.cons (hO.cells.app Cells.nil))))))) _ ⟨N,rfl,by rw[Qcx];exact hO⟩ Qy
  (fun i b=>[(7,nv i),(8,.pointer (some ⟨b,0,none⟩)),(6,.pointer (some ⟨b6,0,none⟩)),(3,.pointer (some ⟨b3,0,none⟩))]) (fun i=>some (.cells #[iT A cap m.c i] 24 (0,0))) ?_ rfl rfl (by kernel_rfl) (by kernel_rfl) rfl (fun _ _ h=>h) ?_ ?_ ?_
 ·rintro i _ ⟨⟩ pre _ ⟨N,rfl,hO⟩ p hp e
  simp only[List.mem_append,List.mem_cons,List.mem_nil_iff,or_false]at hp
  rcases hp with (rfl|rfl|rfl|rfl|rfl)|hp
  ·cases e
  ·cases e
  ·cases e
  ·cases e
  ·cases e
  ·obtain⟨cs,fz,h⟩:=hO.ty p hp
   rw[h]at e
   cases e
 ·intro l i W hW
  simp only[toB,Qd,Qt,Qk,Ql,ay,Qg,QA,eH,Vv,Vi]
  repeat' first|apply jS|apply jO|apply jN|refine Q0 ?_|refine Qc fun _=>?_|refine ZO (k:=_) (h:=?_)|apply jT
  exact Q04 0 rfl rfl rfl aF
 ·rintro l i pre b8 _ W1 hM' hi hpl ⟨N,rfl,hO⟩ hl hln hkb hge
  simp only[toB,Qd,Qt,Qk,Ql,ay,Qg,QA,eH,Vv,Vi]
  have hrow1:=Q3u (c:=n.c) hi
  have hrow2:(i+1)*n.c=i*n.c+n.c:=by rw[Vo];omega
  have hic:i*n.c≤40000:=by omega
  repeat' first|apply jS|apply jO|refine Q1 ?_|refine Q3 ?_|refine Qb ?_|refine Qj ?_|refine ZK (h:=?_)|apply jB
  refine Q7c (b:=b0) (o:=0) (l:=i*n.c) (h':=(i+1)*n.c) rfl rfl rfl hAo rfl rfl (.inl rfl) rfl rfl (.inl rfl) oq oq hco (fun A9 hA9=>?_)
  rw[show (i+1)*n.c-i*n.c=n.c by omega]
  have hA9:0<n.c→A9=some ⟨b0,0+i*n.c*2,none⟩:=fun h=>hA9 oq
  repeat' first|apply jS|apply jO|apply jN|refine Q7 ?_|refine Qc fun _=>?_|refine ZO (k:=_) (h:=?_)|apply jT
  rename_i b9
  refine Qf (A:=[]) rfl trivial rfl rfl rfl (fun w hk _=>Qip w n.r n.c (n.r*n.c) cap' A') fun w v w' _ _ _ hR=>?_
  obtain⟨by_,rfl,hNy⟩:=hR
  refine⟨_,hNy,?_⟩
  repeat' first|apply jN|apply jT|apply jB
  have hby:∀ (N:aj),(by_,Obj.cells #[nv n.r,nv n.c,.slice A' (n.r*n.c) cap'] 26 (0,0))∈((by_,Obj.cells #[nv n.r,nv n.c,.slice A' (n.r*n.c) cap'] 26 (0,0))::(b9,.cells #[.slice A9 n.c (co-i*n.c)] 24 (0,0))::(b8,.cells #[iT A cap m.c i] 24 (0,0))::([(bx,Obj.cells #[nv m.r,nv m.c,.slice A (m.r*m.c) cap] 26 (0,0)),(b6,.cells #[nv m.r,nv n.c,.slice Ao (m.r*n.c) co] 26 (0,0)),(b4,.cells #[iv 0,iv 0,.slice none 0 0] 26 (0,0)),(b3,.cells #[nv n.r,nv n.c,.slice A' (n.r*n.c) cap'] 26 (0,0)),(b2,.cells #[nv m.r,nv m.c,.slice A (m.r*m.c) cap] 26 (0,0))]++(N++[]))):=fun N=>Vh ..
  refine Qer (od:=[⟨16,2,[],[]⟩]) _ mixed hl hln rfl (enters_of Tryz.func136 (by kernel_rfl) rfl) (Q4f hbr' hbc' (V8 _) hcap') hkb (Q4x hge)
   (fun ks H'=>∃ N,H'=(by_,Obj.cells #[nv n.r,nv n.c,.slice A' (n.r*n.c) cap'] 26 (0,0))::(b9,.cells #[.slice A9 n.c (co-i*n.c)] 24 (0,0))::(b8,.cells #[iT A cap m.c i] 24 (0,0))::([(bx,Obj.cells #[nv m.r,nv m.c,.slice A (m.r*m.c) cap] 26 (0,0)),(b6,.cells #[nv m.r,nv n.c,.slice Ao (m.r*n.c) co] 26 (0,0)),(b4,.cells #[iv 0,iv 0,.slice none 0 0] 26 (0,0)),(b3,.cells #[nv n.r,nv n.c,.slice A' (n.r*n.c) cap'] 26 (0,0)),(b2,.cells #[nv m.r,nv m.c,.slice A (m.r*m.c) cap] 26 (0,0))]++(N++[]))∧aG N (.slice Ao (m.r*n.c) co) (m.r*n.c) (jl m n pre i ks 0 0))
   (by rintro ks _ ⟨N,rfl,_⟩;exact hby N) (by rintro ks _ ⟨N,rfl,hO⟩;exact(Cells.cons (Cells.cons (Cells.cons (Cells.cons (Cells.cons (Cells.cons (Cells.cons (Cells.cons (hO.cells.app Cells.nil)))))))))) _ ⟨N,rfl,by rw[Q9c];exact hO⟩ (HSub.refl _)
   (fun k _=>[(10,nv k),(11,iT A' cap' n.c k),(9,.pointer (some ⟨b9,0,none⟩)),(8,.pointer (some ⟨b8,0,none⟩))]) (fun _=>none) (fun _ _ h=>by cases h) rfl rfl (by kernel_rfl) (by kernel_rfl) ?_ ?_ ?_
  ·intro l2 k W2 hW2
   simp only[toB,Qd,Qt,Qk,Ql,ay,Qg,QA,eH,Vv,Vi]
   repeat' first|apply jS|apply jO|apply jN|refine Q0 ?_|apply jT
   exact Q6s rfl aF
  ·rintro l2 k ks _ _ W2 hM2 hk hkl ⟨N,rfl,hO⟩ hln2 hkb2 hge2
   simp only[toB,Qd,Qt,Qk,Ql,ay,Qg,QA,eH,Vv,Vi]
   have hra:=Q79 (c2:=⟨Tryz.prog,86,W2,_,hM2⟩) (Qg8 hm hE hi) hkb2 (Q4x hge2) []
   have hrb:=Q79 (c2:=⟨Tryz.prog,86,W2,_,hM2⟩) (Qg8 hn hE' hk) hkb2 (Q4x hge2) []
   have hkc:k<m.c:=by omega
   have ea:(dh m i).getD k 0=m.at i k:=Q19 hkc
   repeat' first|apply jS|apply jO|refine Q1 ?_|refine Qb ?_|refine Zn (h:=?_)|refine XD (h:=?_)|apply jB
   refine Q5 aA rfl rfl rfl (fun w _ _=>Qii w ((dh m i).getD k 0)) fun w v w' _ _ _ hR=>?_
   by_cases hz:(dh m i).getD k 0=0
   ·rw[decide_eq_true hz]at hR
    subst hR
    repeat' first|apply jN|apply jT|apply jU|apply jE|refine Q8 rfl ?_|apply Qe
    rw[Qcw (show m.at i k=0 by rw[← ea];exact hz)]at hO
    exact XX ⟨N,rfl,hO⟩ (Cells.cons (Cells.cons (Cells.cons (Cells.cons (Cells.cons (Cells.cons (Cells.cons (Cells.cons (hO.cells.app Cells.nil))))))))) (HSub.refl _)
   ·rw[decide_eq_false hz]at hR
    subst hR
    repeat' first|apply jS|apply jO|apply jN|apply jT|refine Q1 ?_|refine Zv (h:=?_)|apply jK|refine Q4 rfl ?_|apply jB
    refine Qp (ι:=Nat × aj) ⟨fun z=>[(62,nv z.1),(61,nv n.c),(60,iT A' cap' n.c k),(10,nv k),(9,.pointer (some ⟨b9,0,none⟩)),(8,.pointer (some ⟨b8,0,none⟩))],
     fun z=>(by_,Obj.cells #[nv n.r,nv n.c,.slice A' (n.r*n.c) cap'] 26 (0,0))::(b9,.cells #[.slice A9 n.c (co-i*n.c)] 24 (0,0))::(b8,.cells #[iT A cap m.c i] 24 (0,0))::([(bx,Obj.cells #[nv m.r,nv m.c,.slice A (m.r*m.c) cap] 26 (0,0)),(b6,.cells #[nv m.r,nv n.c,.slice Ao (m.r*n.c) co] 26 (0,0)),(b4,.cells #[iv 0,iv 0,.slice none 0 0] 26 (0,0)),(b3,.cells #[nv n.r,nv n.c,.slice A' (n.r*n.c) cap'] 26 (0,0)),(b2,.cells #[nv m.r,nv m.c,.slice A (m.r*m.c) cap] 26 (0,0))]++(z.2++[])),
     fun z=>z.1≤n.c∧aG z.2 (.slice Ao (m.r*n.c) co) (m.r*n.c) (jl m n pre i ks k z.1),fun z=>n.c-z.1⟩ (0,N) ⟨by omega,by rw[Qor m n pre i ks k 0];exact hO⟩ aF (HSub.refl _) (fun j hj=>?_)
    obtain⟨j,N⟩:=j
    obtain⟨hjn,hO⟩:=hj
    dsimp only at hjn hO ⊢
    by_cases hj:j<n.c
    ·have eb:(dh n k).getD j 0=n.at k j:=Q19 hj
     have hlt:=Q0z hi hj
     obtain rfl:=hAo oq
     obtain rfl:=hA9 oq
     have hat:dU (.slice (some ⟨b0,0+i*n.c*2,none⟩) n.c (co-i*n.c)) (j*2)=dU (.slice (some ⟨b0,0,none⟩) (m.r*n.c) co) ((i*n.c+j)*2):=by
      simp only[Ww]
      congr 1
      rw[Vo];omega
     have hsub:jG ⟨Tryz.prog,86,W2,_,hM2⟩ N (.slice (some ⟨b0,0+i*n.c*2,none⟩) n.c (co-i*n.c)) n.c _:=Qqq (l:=i*n.c) hO (fun _=>rfl) (fun _=>rfl) oq oq
     have es:(((jl m n pre i ks k j).drop (i*n.c)).take n.c).getD j 0=enz n.c (jl m n pre i ks k j) i j:=Qg9 hj
     repeat' first|apply jS|apply jO|apply jN|apply jT|refine Q1 ?_|refine Q0 ?_|refine Q7 ?_|refine Zn (h:=?_)|refine XD (h:=?_)|refine Q2 ?_|(refine Qs (h1:=?_) (h2:=?_)<;>intro hc<;>try omega)|refine Qc fun _=>?_|refine Q2 ?_|apply jK|refine Q8 rfl ?_|apply jB
     refine Q5 aA rfl rfl rfl (fun w _ _=>Qii w ((dh n k).getD j 0)) fun w v w' _ _ _ hR=>?_
     by_cases hz2:(dh n k).getD j 0=0
     ·rw[decide_eq_true hz2]at hR
      subst hR
      repeat' first|apply jO|apply jN|apply jT|refine Q1 ?_|refine Qj ?_|refine QV (h:=?_)|apply jK|refine Q4 rfl ?_|apply jW
      rw[Qcu (show m.at i k*n.at k j=0 by rw[← eb,hz2,Int.mul_zero])]at hO
      exact Qa (j+1,N) ⟨by dsimp only;omega,hO⟩ aY aF (HSub.skip (HSub.refl _))
     ·rw[decide_eq_false hz2]at hR
      subst hR
      repeat' first|apply jD|apply jN|apply jT|refine Q1 ?_|refine Qb ?_|refine Q7 ?_|refine Zn (h:=?_)|refine XD (h:=?_)|refine QV (h:=?_)|refine Q8 rfl ?_
      refine Q5 aA rfl rfl rfl (fun w _ _=>Qa0 w _ _ ((dh m i).getD k 0) ((dh n k).getD j 0) (K+L) (Qi (by rw[ea];exact Y6 (hx.at i k) oq)) (Qi (by rw[eb];exact Y6 (hy.at k j) oq)) oq) fun w v w' _ _ _ hR=>?_
      subst hR
      skip
      refine Q5 aA rfl rfl rfl (fun w _ _=>Qj4 w _ _ ((((jl m n pre i ks k j).drop (i*n.c)).take n.c).getD j 0) ((dh m i).getD k 0*(dh n k).getD j 0) (K+L+2) (Qi (by rw[es,show enz n.c (jl m n pre i ks k j) i j=muF m n pre i ks k j i j from Q2j hi hj];exact Qmd hbc hx hy oq oq)) (Qi (by rw[ea,eb];exact Y6 (X2 (hx.at i k) (hy.at k j)) oq)) oq) fun w v w' _ _ _ hR=>?_
      subst hR
      repeat' first|refine Zn (h:=?_)|fail
      refine Q27 (A:=[_,_,_,_,_,_,_,_,_]) hO rfl rfl aA (congrArg (fun a=>some (Value.pointer (some a))) hat) rfl hlt (fun N' aU=>?_)
      rw[es,ea,eb,Qh9 hi hj]at aU
      repeat' first|apply jO|apply jN|apply jT|refine Q1 ?_|refine Qj ?_|apply jW
      exact Qa (j+1,N') ⟨by dsimp only;omega,aU⟩ aY aF (HSub.skip (HSub.refl _))
    ·repeat' first|apply jS|apply jO|apply jN|apply jT|(refine Qs (h1:=?_) (h2:=?_)<;>intro hc<;>try omega)|apply jU|apply jE|refine Q4 rfl ?_|apply jW|apply Qe
     obtain rfl:j=n.c:=by omega
     rw[Qcv]at hO
     exact XX ⟨N,rfl,hO⟩ (Cells.cons (Cells.cons (Cells.cons (Cells.cons (Cells.cons (Cells.cons (Cells.cons (Cells.cons (hO.cells.app Cells.nil))))))))) (HSub.refl _)
  ·rintro _ ⟨N,rfl,hO⟩
   repeat' first|apply jW
   rw[← hr,Qha]at hO
   exact XX ⟨N,rfl,hO⟩ (Cells.cons (Cells.cons (Cells.cons (Cells.cons (Cells.cons (hO.cells.app Cells.nil)))))) (HSub.skip (HSub.skip (HSub.skip (HSub.refl _))))
 ·rintro D _ ⟨N,rfl,hO⟩ hD
  simp only[toS,Qd,Qt,Qk,Ql,ay,Qg,QA]
  repeat' first|apply jS|apply jO|apply jN|apply jT|refine Q0 ?_|refine Q7 ?_|refine Q2 ?_|refine Q2 ?_|apply jR
  rw[Qhb]at hO
  refine XW 0 rfl hD rfl ?_
  exact X8 2 rfl rfl rfl rfl (fun a w' st=>⟨st.kp,N,_,rfl,st.aS rfl (by exact HSub.skip (HSub.skip (HSub.skip (HSub.skip (HSub.skip QI))))),fZ.mk' hO⟩)


theorem Qq0 (w:World) (v u:Value) (a b:XM) (h:¬(RX a∧RX b∧a.C=b.R)) (ha:IsX w v a) (hb:IsX w u b) (hl:a.E.length<1000000000) (hl':b.E.length<1000000000) :
  Calls Tryz.prog 58 #[v,u] w (aP fun v w'=>Kp [] w w'∧v=.tuple #[Qn8,.bool false]):=by
 obtain⟨E,rfl,hE⟩:=ha
 obtain⟨E',rfl,hE'⟩:=hb
 refine Q9 [⟨16,2,[],[]⟩] [] au [] Tryz.func58 rfl mixed (by kernel_rfl) Tryz.ntmps58 Tryz.results58 rfl ⟨by simp,by simp⟩ au ?_
 simp only[toS,Qd,Qt,Qk,Ql,ay,Qg,QA,aC]
 repeat' first|apply jS|apply jO|apply jN|refine Q0 ?_|refine Q7 ?_|refine Qc fun _=>?_|refine QB fun _=>?_|apply jT
 refine Q5 trivial rfl rfl rfl (fun w hk _=>YY w _ a ⟨E,rfl,hE.mono hk⟩ oq) fun w v w' _ _ _ hR=>?_
 obtain⟨b',rfl,hb⟩:=hR
 cases b' with
 | false =>
  repeat' first|apply jS|apply jO|apply jN|apply jT|refine Q1 ?_|refine Q0 ?_|refine QD (h:=?_)|refine QV (h:=?_)|refine Q2 ?_|refine Zh (h:=?_)|refine Q2 ?_|apply jV|refine Q8 rfl ?_|refine QU (h:=?_)|apply jR
  exact X8 0 rfl rfl rfl rfl (fun a w' st=>⟨st.kp,rfl⟩)
 | true =>
  repeat' first|refine Q1 ?_|refine Q7 ?_|refine QV (h:=?_)|fail
  refine Q5 trivial rfl rfl rfl (fun w hk _=>YY w _ b ⟨E',rfl,hE'.mono hk⟩ oq) fun w v w' _ _ _ hR=>?_
  obtain⟨b',rfl,hb'⟩:=hR
  cases b' with
  | false =>
   repeat' first|apply jS|apply jO|apply jN|apply jT|refine Q1 ?_|refine Q0 ?_|refine QD (h:=?_)|refine QC (h:=?_)|refine QV (h:=?_)|refine Q2 ?_|refine Zh (h:=?_)|refine Q2 ?_|apply jV|refine Q8 rfl ?_|refine QU (h:=?_)|apply jR
   exact X8 0 rfl rfl rfl rfl (fun a w' st=>⟨st.kp,rfl⟩)
  | true =>
   repeat' first|apply jS|apply jO|apply jN|apply jT|refine Q1 ?_|refine Q3 ?_|refine Q0 ?_|refine Qb ?_|refine QC (h:=?_)|refine QV (h:=?_)|refine Q2 ?_|(refine Ze (h1:=?_) (h2:=?_)<;>intro hc<;>try omega)|refine Zh (h:=?_)|refine Q2 ?_|apply jV|apply jK|apply jR|refine Q8 rfl ?_|refine Q4 rfl ?_
   ·exact X8 0 rfl rfl rfl rfl (fun a w' st=>⟨st.kp,rfl⟩)
   all_goals exact absurd ⟨hb.1 rfl,hb'.1 rfl,by omega⟩ h

def iV (zs:List Int):ZM:=⟨zs.length,1,zs⟩
theorem Qb3 {zs:List Int} (h:zs.length≤200):cO (iV zs):=⟨h,by show 1≤200;omega,by show zs.length=zs.length*1;rw[Nat.mul_one]⟩

theorem Qbd (K L:Nat) (w:World) (v u:Value) (m:ZM) (zs:List Int) (hm:cO m) (hr:m.c=zs.length) (hK:K+L≤29000000000000) (hx:cZ K m) (hy:fK L zs) (hv:fO w v m) (hu:WZ w u zs.length zs) :
  Calls Tryz.prog 74 #[v,u] w (aP fun v w'=>Kp [] w w'∧∃ N E,New N w w'∧v=.tuple #[E,.bool true]∧aG N E (jH m (iV zs)).e.length (jH m (iV zs)).e):=by
 have hv0:=hv
 have hbc:=hm.c
 obtain⟨E,rfl,hE⟩:=hv
 have hle:=hm.le
 refine Q9 [] [] au [] Tryz.func74 rfl mixed (by kernel_rfl) Tryz.ntmps74 Tryz.results74 rfl ⟨by simp,by simp⟩ au ?_
 simp only[toS,Qd,Qt,Qk,Ql,ay,Qg,QA,aC]
 have hR:=WZ.rd (c:=⟨Tryz.prog,20,w,[],by simp⟩) hu rfl []
 obtain⟨A,cap,rfl⟩:=hu.form
 repeat' first|apply jS|apply jO|apply jN|refine Q1 ?_|refine Q0 ?_|refine Q7 ?_|refine Zv (h:=?_)|refine QB fun _=>?_|refine Zh (h:=?_)|apply jT
 refine Qf (A:=[_]) (B:=[]) rfl aA rfl rfl rfl (fun w hk _=>Qn1 K L w _ _ m (iV zs) hm (Qb3 oq) hr hK hx hy (hv0.mono hk) ⟨_,rfl,hu.mono hk⟩) fun w v w' _ _ _ hR=>?_
 obtain⟨N,u,rfl,hN,hO⟩:=hR
 obtain⟨Eo,rfl,hO⟩:=hO
 obtain⟨A2,c2,rfl⟩:=hO.form
 refine⟨N,hN,?_⟩
 repeat' first|apply jS|apply jO|apply jN|apply jT|refine Q1 ?_|refine Q3 ?_|refine Q0 ?_|refine Qb ?_|refine Qv (h:=?_)|refine Q2 ?_|refine Qc fun _=>?_|refine Q2 ?_|apply jR
 exact YH rfl rfl (fun a w' st=>⟨st.kp,N,_,st.aS rfl (by simp only[Vj];exact HSub.skip (HSub.skip (HSub.refl _))),rfl,hO⟩)


def dT:TR:=([],undef,[])
def tv (ts:List TR) (i:Nat):Value:=(ts.getD i dT).2.1
def tr' (ts:List TR) (i:Nat):List Int:=(ts.getD i dT).2.2
def tM (ts:List TR):Mi:=fun i j=>(tr' ts i).getD j 0
theorem Qf8 {ts:List TR} {i:Nat} (h:i<ts.length):(ts.map (·.2.1))[i]?=some (tv ts i):=by
 rw[List.getElem?_map,Xj (d:=dT) h]
 rfl
theorem Qfa {ts:List TR} {i:Nat} (h:i<ts.length):ts.getD i dT∈ts:=YA h
theorem bY.row {N:aj} {v:Value} {c:Nat} {ts:List TR} (h:bY N v c ts) {i:Nat} (hi:i<ts.length):aG (ts.getD i dT).1 (tv ts i) c (tr' ts i):=h.rows _ (Qfa hi)
theorem Qfd:∀ {ts:List TR} {t:TR},t∈ts→HSub t.1 (tH ts)
 | [],_,h=>by cases h
 | x::ts,t,h=>by
  have e:tH (x::ts)=x.1++tH ts:=by simp[tH]
  rw[e]
  rcases List.mem_cons.1 h with rfl|h
  ·exact QI
  ·exact Qr (Qfd h)
theorem Qm1 {ts:List TR} {i:Nat} (hi:i<ts.length):tH ts=tH (ts.take i)++((ts.getD i dT).1++tH (ts.drop (i+1))):=by
 have h1:ts=ts.take i++(ts.getD i dT::ts.drop (i+1)):=by
  conv=>lhs;rw[← List.take_append_drop i ts]
  congr 1
  rw[List.drop_eq_getElem_cons hi]
  congr 1
  simp only[List.getD,List.getElem?_eq_getElem hi,Option.getD_some]
 conv=>lhs;rw[h1]
 rw[Q44]
 simp[tH]
theorem Qqo {ts:List TR} {i:Nat} (hi:i<ts.length) (t:TR):tH (ts.set i t)=tH (ts.take i)++(t.1++tH (ts.drop (i+1))):=by
 rw[Qm1 (ts:=ts.set i t) (i:=i) (by simpa using hi)]
 rw[List.take_set_of_le (V8 _),List.drop_set_of_lt oq]
 congr 2
 simp[List.getD,hi]
theorem Qqm {ts:List TR} {i j:Nat} {N:aj} {v:Value} {u:Int} (hi:i<ts.length) (hj:j<(tr' ts i).length) (a b:Nat):tM (ts.set i (N,v,(tr' ts i).set j u)) a b=if a=i∧b=j then u else tM ts a b:=by
 unfold tM tr'
 by_cases ha:a=i
 ·subst ha
  rw[Q3h (d:=dT) hi,if_pos rfl]
  show ((tr' ts a).set j u).getD b 0=_
  rw[Q3h (d:=0) hj]
  by_cases hb:b=j
  ·rw[if_pos hb,if_pos ⟨rfl,hb⟩]
  ·rw[if_neg hb,if_neg (fun h=>hb h.2)];rfl
 ·rw[Q3h (d:=dT) hi,if_neg ha,if_neg (fun h=>ha h.1)]
theorem Qqk {ts:List TR} {i:Nat} {N:aj} {l:List Int} (hi:i<ts.length) (a:Nat):tv (ts.set i (N,tv ts i,l)) a=tv ts a:=by
 unfold tv
 rw[Q3h (d:=dT) hi]
 split
 ·rename_i h;subst h;rfl
 ·rfl
theorem Qnf {ts:List TR} {i:Nat} {N:aj} {l:List Int} (hi:i<ts.length):(ts.set i (N,tv ts i,l)).map (·.2.1)=ts.map (·.2.1):=by
 rw[List.map_set]
 refine List.ext_getElem? (fun k=>?_)
 rw[List.getElem?_set]
 split
 ·rename_i h
  subst h
  rw[if_pos (by simpa using hi),Qf8 hi]
 ·rfl

section
variable {c:Cx} {Q:Exit→Act→World→Prop} {m:Mode} {F:ak} {H:aj} {r:List dA} {g:Option (Option Tmp × Bool)} {ns:Bool} {d:Tmp} {ty t t':TypeId} {x y:Operand} {N:aj} {v:Value} {cc:Nat} {ts:List TR}
theorem bY.rd (h:bY N v cc ts):Rd c N 1 v ts.length (ts.map (·.2.1)):=aB.rd h.outer
theorem Q1c {e:TypeId} {n:Nat} [dF c.P t e] (hd:Qx c.n (some d)=true:=by exact rfl) (hg:Qh F g=some true:=by exact rfl) (hx:ev F x=some v:=by exact rfl) (hT:bY N v cc ts:=by assumption) (hn:ts.length=n:=by assumption)
  (h:JO c Q m r ((d,.int .i64 n)::F) H):JO c Q m (⟨some d,.call ⟨.builtin .len,#[x],#[t]⟩,ty,g,.bC,ns⟩::r) F H:=XP hd hg hx hT.rd (by rw[hn];exact h)
theorem Zo {e:TypeId} {j:Nat} {k:IntKind} [dF c.P t e] [fU c.P e 1] (hd:Qx c.n (some d)=true:=by exact rfl) (hg:Qh F g=some true:=by exact rfl) (hx:ev F x=some v:=by exact rfl) (hy:ev F y=some (.int k j):=by exact rfl) (hT:bY N v cc ts:=by assumption) (hj:j<ts.length:=by omega)
  (h:JO c Q m r ((d,.pointer (some (dU v j)))::F) H):JO c Q m (⟨some d,.indexAddr t x y,ty,g,.bC,ns⟩::r) F H:=Yw hd hg hx hy hT.rd hj h
theorem Yc {i:Nat} {V:Nat→Value} [T1 c.P t] (hd:Qx c.n (some d)=true:=by exact rfl) (hg:Qh F g=some true:=by exact rfl) (hx:ev F x=some (.pointer (some (dU v i))):=by exact rfl) (hl:m.live=true:=by exact rfl) (hT:bY N v cc ts:=by assumption) (hV:∀ a,tv ts a=V a:=by assumption) (hN:HSub N (m.src H):=by exact Q6) (hi:i<ts.length:=by omega)
  (h:JO c Q m r ((d,V i)::F) H):JO c Q m (⟨some d,.load t x,ty,g,.ld,ns⟩::r) F H:=Q1d hd hg hx hl hT.rd hN (Qf8 hi) (by rw[hV];exact h)
theorem Ym {e:TypeId} {i:Nat} {V:Nat→Value} [dF c.P t e] (hd:Qx c.n (some d)=true:=by exact rfl) (hg:Qh F g=some true:=by exact rfl) (hx:ev F x=some (V i):=by exact rfl) (hV:∀ a,tv ts a=V a:=by assumption) (hT:bY N v cc ts:=by assumption) (hi:i<ts.length:=by omega)
  (h:JO c Q m r ((d,.int .i64 cc)::F) H):JO c Q m (⟨some d,.call ⟨.builtin .len,#[x],#[t]⟩,ty,g,.bC,ns⟩::r) F H:=Zv hd hg (by rw[hx,hV]) (hT.row hi).rd h
theorem QW {e:TypeId} {i j:Nat} {V:Nat→Value} {k:IntKind} [dF c.P t e] [fU c.P e 2] (hd:Qx c.n (some d)=true:=by exact rfl) (hg:Qh F g=some true:=by exact rfl) (hx:ev F x=some (V i):=by exact rfl) (hy:ev F y=some (.int k j):=by exact rfl) (hV:∀ a,tv ts a=V a:=by assumption) (hT:bY N v cc ts:=by assumption) (hi:i<ts.length:=by omega) (hj:j<cc:=by omega)
  (h:JO c Q m r ((d,.pointer (some (dU (V i) (j*2))))::F) H):JO c Q m (⟨some d,.indexAddr t x y,ty,g,.bC,ns⟩::r) F H:=Zn hd hg (by rw[hx,hV]) hy (hT.row hi).rd hj (by rw[hV];exact h)
theorem Y2 {i j:Nat} {V:Nat→Value} [TN c.P t 2] (hd:Qx c.n (some d)=true:=by exact rfl) (hg:Qh F g=some true:=by exact rfl) (hx:ev F x=some (.pointer (some (dU (V i) (j*2)))):=by exact rfl) (hl:m.live=true:=by exact rfl) (hV:∀ a,tv ts a=V a:=by assumption) (hT:bY N v cc ts:=by assumption) (hN:HSub (tH ts) (m.src H):=by exact Q6) (hi:i<ts.length:=by omega) (hj:j<cc:=by omega)
  (h:JO c Q m r ((d,Wv (tM ts i j))::F) H):JO c Q m (⟨some d,.load t x,ty,g,.ld,ns⟩::r) F H:=XD hd hg (by rw[hx,hV]) hl (hT.row hi).rd ((Qfd (Qfa hi)).trans hN) hj h
theorem Wr {A B:aj} {i j:Nat} {u:Int} {V:Nat→Value} [TN c.P t 2] (hV:∀ a,tv ts a=V a) (hT:bY N v cc ts) (hH:H=A++(N++(tH ts++B))) (hg:Qh F g=some true) (hm:m.aW ns r) (hx:ev F x=some (.pointer (some (dU (V i) (j*2))))) (hy:ev F y=some (Wv u))
  (hi:i<ts.length) (hj:j<cc) (h:∀ ts',bY N v cc ts'→ts'.length=ts.length→(∀ a,tv ts' a=V a)→(∀ a b,tM ts' a b=if a=i∧b=j then u else tM ts a b)→JO c Q m.spent r F (A++(N++(tH ts'++B)))):JO c Q m (⟨none,.store t x y,ty,g,.seq,ns⟩::r) F H:=by
 refine Q27 (A:=A++(N++tH (ts.take i))) (B:=tH (ts.drop (i+1))++B) (hT.row hi) (by rw[hH,Qm1 hi];simp only[Vd]) hg hm (by rw[hx,hV]) hy hj (fun N' aU=>?_)
 have h1:=h (ts.set i (N',tv ts i,(tr' ts i).set j u)) ⟨by rw[List.length_set,Qnf hi];exact hT.outer,fun q hq=>by
  rcases List.mem_or_eq_of_mem_set hq with hq|rfl
  ·exact hT.rows q hq
  ·exact aU⟩ au (fun a=>by rw[Qqk hi];exact hV a) (Qqm hi (by rw[(hT.row hi).len];exact hj))
 rw[Qqo hi]at h1
 simpa only[Vd] using h1
end

section
variable {c:Cx} {Q:Exit→Act→World→Prop} {m:Mode} {F:ak} {H:aj} {r:List dA} {g:Option (Option Tmp × Bool)} {ns:Bool} {d:Tmp} {ty t t':TypeId} {x y:Operand}
end


theorem Q0i {e:TypeId} {sz n:Nat} {N N':aj} {v:Value} {cs cs':List Value} (h:aB e sz N v n cs) (h':aB e sz N' v n cs'):keys N=keys N':=by
 obtain⟨_,⟨h1,_,h3⟩|⟨b,cap,cur,h1,h3,_⟩⟩:=h
 ·obtain⟨_,⟨_,_,k3⟩|⟨b,cap,cur,k1,_⟩⟩:=h'
  ·rw[h3,k3]
  ·rw[h1]at k1;cases k1
 ·obtain⟨_,⟨k1,_,_⟩|⟨b',cap',cur',k1,k3,_⟩⟩:=h'
  ·rw[h1]at k1;cases k1
  ·rw[h1]at k1
   cases k1
   rw[h3,k3]
   rfl

theorem Qdy {c:Cx} {R:Value→World→Prop} {F:ak} {H:aj} (hR:∀ a w,St c F H a w→R (.tuple #[]) w):JX c (Yp c.P #[] (aP R)) .ret F H:=⟨fun a w st=>(Yq (c:=c) (F:=F) (H:=H) hR).h a w st⟩


theorem Qfs {B:Nat}:∀ {n:Nat} {f:Nat→Int},(∀ i,i<n→(f i).natAbs≤B)→(aN n f).natAbs≤n*B
 | 0,f,_=>by simp[aN]
 | n+1,f,h=>by
  rw[aN]
  have h1:=Qfs (n:=n) (f:=f) (fun i hi=>h i oq)
  have h2:=h n oq
  have h3:=Int.natAbs_add_le (aN n f) (f n)
  rw[Vo,Nat.one_mul]
  omega
theorem Qml {K:Nat}:∀ {n:Nat} {A:Mi},n≤256→(∀ i j,(A i j).natAbs<256 ^ K)→(aZ n A).natAbs≤256 ^ (n*(K+1))
 | 0,A,_,_=>by simp[aZ]
 | n + 1, A, hn, h => by
  rw[aZ]
  have h1:=Qfs (n:=n+1) (f:=fun i=>sg i*A i 0*aZ n (fun a b=>A (sk i a) (b+1))) (B:=256 ^ K*256 ^ (n*(K+1))) (fun i hi=>by
   have h2:=Qml (n:=n) (A:=fun a b=>A (sk i a) (b+1)) oq (fun a b=>h _ _)
   have h3:(sg i*A i 0).natAbs≤256 ^ K:=by
    have:=h i 0
    unfold sg
    split
    ·rw[Int.one_mul];omega
    ·rw[show (-1:Int)*A i 0 = -(A i 0) by omega,Int.natAbs_neg];omega
   rw[Vq]
   exact Vr h3 h2)
  refine V0 h1 ?_
  have e:256 ^ ((n+1)*(K+1))=256*(256 ^ K*256 ^ (n*(K+1))):=by
   rw[← Nat.pow_add, ← Nat.pow_succ']
   congr 1
   rw[Vo];omega
  rw[e]
  exact V1 _ hn
theorem Qtn {K k n:Nat} {A:Mi} {i j:Nat} (hk:k<n) (hn:n≤200) (h:∀ i j,(A i j).natAbs<256 ^ K):(bm k A i j).natAbs<256 ^ (n*(K+1)+1):=by
 have h1:=Qml (K:=K) (n:=k+1) (A:=bd k A i j) oq (fun a b=>h _ _)
 unfold bm
 refine V5 h1 (Nat.pow_lt_pow_right dq ?_)
 have:=V1 (K+1) (show k+1≤n from hk)
 omega


structure DetI (n K:Nat) (A0:Mi) (k:Nat) (last:Int) (ts:List TR):Prop where
 ex:∃ A,Bar n A k (tM ts) last∧aZ n A=aZ n A0∧∀ i j,(A i j).natAbs<256 ^ K
 bd:∀ i j,i<n→j<n→(tM ts i j).natAbs<256 ^ (n*(K+1)+1)

theorem Bar.lt {n k K:Nat} {A M:Mi} {last:Int} (h:Bar n A k M last) (hn:n≤200) (hA:∀ i j,(A i j).natAbs<256 ^ K) {i j:Nat} (hi:k≤i) (hin:i<n) (hj:k≤j) (hjn:j<n):(M i j).natAbs<256 ^ (n*(K+1)+1):=by
 rw[h.eq i j hi hin hj hjn]
 exact Qtn oq hn hA
set_option linter.unusedSimpArgs false
set_option linter.unusedVariables false
set_option linter.unusedSectionVars false

set_option linter.unusedSimpArgs false
set_option linter.unusedVariables false
set_option linter.unusedSectionVars false

section
variable {c:Cx} {Q:Exit→Act→World→Prop} {m:Mode} {F:ak} {H:aj} {r:List dA} {g:Option (Option Tmp × Bool)} {ns:Bool} {ty:TypeId} {N:aj} {v:Value} {cc:Nat} {ts:List TR}
end

structure RedI (n cc k:Nat) (M0:Mi) (X E:Nat) (i:Nat) (ts:List TR):Prop where
 red:Red n M0 (tM ts)
 top:∀ a,a<k→∀ b,tM ts a b=M0 a b
 zer:∀ a,k<a→a<i→tM ts a k=0
 col:∀ a,k≤a→a<n→(tM ts a k).natAbs≤X
 all:∀ a b,k≤a→a<n→(tM ts a b).natAbs≤E
 zs:∀ b,(∀ a,k≤a→a<n→M0 a b=0)→∀ a,k≤a→a<n→tM ts a b=0


def iq (t:Tn):Array Value:=#[.bool (decide (t.a<0)),sv (bD t.a.natAbs),.bool (decide (t.b<0)),sv (bD t.b.natAbs),.bool (decide (t.c<0)),sv (bD t.c.natAbs),.bool (decide (t.d<0)),sv (bD t.d.natAbs)]
structure BdT (K:Nat) (t:Tn):Prop where
 a:t.a.natAbs<256 ^ K
 b:t.b.natAbs<256 ^ K
 c:t.c.natAbs<256 ^ K
 d:t.d.natAbs<256 ^ K

section
variable {c:Cx} {Q:Exit→Act→World→Prop} {m:Mode} {F:ak} {H:aj} {r:List dA} {g:Option (Option Tmp × Bool)} {ns:Bool} {d:Tmp} {ty t:TypeId} {x:Operand}
theorem Q3j {zc:Array Value} {places:Array (Nat × Nat)} [TSt c.P t zc places] (hd:Qx c.n (some d)=true:=by exact rfl) (hg:Qh F g=some true:=by exact rfl)
  (h:JO c Q m r ((d,(.agg zc))::F) H):JO c Q m (⟨some d,.build t #[],ty,g,.bC,ns⟩::r) F H :=
 ZP (l:=[]) (cs:=zc) hd hg rfl rfl h
theorem Qc8 {b o:Nat} (k:Nat) {cs:Array Value} {T:TypeId} {fz:Nat × Nat} {z:Int} [TN c.P t 2] (hd:Qx c.n (some d)=true:=by exact rfl) (hg:Qh F g=some true:=by exact rfl) (hx:ev F x=some (.pointer (some ⟨b,o,none⟩)):=by exact rfl) (hl:m.live=true:=by exact rfl)
  (hb:(m.src H)[k]?=some (b,.cells cs T fz):=by(first|exact at0|exact at1|exact at2|exact at3|exact at4|exact at5|exact at6|exact at7|exact at8|exact at9)) (h0:cs[o]?=some (.bool (decide (z<0))):=by exact rfl) (h1:cs[o+1]?=some (sv (bD z.natAbs)):=by exact rfl) (h:JO c Q m r ((d,Wv z)::F) H):JO c Q m (⟨some d,.load t x,ty,g,.ld,ns⟩::r) F H :=
 Qgj (n:=2) (vs:=#[.bool (decide (z<0)),sv (bD z.natAbs)]) k hd hg hx hl hb rfl (fun j hj=>by
  rcases(show j=0∨j=1 by omega)with rfl|rfl
  ·exact h0
  ·exact h1) h
end

theorem Qlr {c:Cx} {t t':Tmp} {ty ty' n n' b b':Nat} {cs cs':Array Value} {T T':TypeId} {fz fz':Nat × Nat} {R:Value→World→Prop} {F:ak} {H:aj} [TN c.P ty n] [TN c.P ty' n'] (k k':Nat) (h1:look F t=some (.pointer (some ⟨b,0,none⟩)))
  (h2:H[k]?=some (b,Obj.cells cs T fz)) (hn:cs.size=n) (h1':look F t'=some (.pointer (some ⟨b',0,none⟩))) (h2':H[k']?=some (b',Obj.cells cs' T' fz')) (hn':cs'.size=n')
  (hR:∀ a w,St c F H a w→R (.tuple #[.agg cs,.agg cs']) w):JX c (Yp c.P #[.cell t ty,.cell t' ty'] (aP R)) .ret F H :=
 YI [.agg cs,.agg cs'] (ZU k h1 h2 hn (ZU k' h1' h2' hn' JR.nil)) hR
theorem Qmu (K:Nat) (w:World) (t:Tn) (x y:Int) (hK:K≤14000000000000) (ht:BdT K t) (hx:x.natAbs<256 ^ K) (hy:y.natAbs<256 ^ K) :
  Calls Tryz.prog 153 #[.agg (iq t),Wv x,Wv y] w (aP fun v w'=>Kp [] w w'∧v=.tuple #[Wv (t.p x y),Wv (t.q x y)]):=by
 refine Q9 [⟨1,1,[0,1,2,4,5,6,9,10,11,13,14,15,3,7,8,12,16,17,18,19],[]⟩] [] au [] Tryz.func153 rfl mixed (by kernel_rfl) Tryz.ntmps153 Tryz.results153 rfl ⟨by simp,by simp⟩ au ?_
 simp only[toS,Qd,Qt,Qk,Ql,ay,Qg,QA,aC]
 repeat' first|apply jS|apply jO|apply jN|refine Qc fun _=>?_|refine QB fun _=>?_|apply jT
 rename_i b3 b4 b5 b6 b7
 refine Z7 [(b5,.cells #[.bool (decide (y<0)),sv (bD y.natAbs)] 35),(b4,.cells #[.bool (decide (x<0)),sv (bD x.natAbs)] 35),(b3,.cells (iq t) 117)] Qy ?_
 repeat' first|refine Q3 ?_|refine Q7 ?_|refine Qc8 (k:=_) (h:=?_)|fail
 refine Q5 aA rfl aH rfl (fun w hk hs=>Qa0 w _ _ t.a x K (Qi ht.a) (Qi hx) oq) fun w v w' _ _ _ hR=>?_
 subst hR
 skip
 refine Q5 aA rfl aH rfl (fun w hk hs=>Qa0 w _ _ t.b y K (Qi ht.b) (Qi hy) oq) fun w v w' _ _ _ hR=>?_
 subst hR
 skip
 refine Q5 aA rfl aH rfl (fun w hk hs=>Qj4 w _ _ (t.a*x) (t.b*y) (K+K) (Qi (X2 ht.a hx)) (Qi (X2 ht.b hy)) oq) fun w v w' _ _ _ hR=>?_
 subst hR
 skip
 refine Q5 aA rfl aH rfl (fun w hk hs=>Qa0 w _ _ t.c x K (Qi ht.c) (Qi hx) oq) fun w v w' _ _ _ hR=>?_
 subst hR
 skip
 refine Q5 aA rfl aH rfl (fun w hk hs=>Qa0 w _ _ t.d y K (Qi ht.d) (Qi hy) oq) fun w v w' _ _ _ hR=>?_
 subst hR
 skip
 refine Q5 aA rfl aH rfl (fun w hk hs=>Qj4 w _ _ (t.c*x) (t.d*y) (K+K) (Qi (X2 ht.c hx)) (Qi (X2 ht.d hy)) oq) fun w v w' _ _ _ hR=>?_
 subst hR
 repeat' first|apply jN|apply jT|refine Q2 ?_|refine ZW (k:=_) (h:=?_)|refine Q2 ?_|apply jR
 exact Qlr 1 0 rfl rfl rfl rfl rfl rfl (fun a w st=>⟨st.kp,rfl⟩)

theorem Qjp (t:Tn):iq t.back=#[.bool (decide (t.d<0)),sv (bD (t.d).natAbs),.bool (decide (-t.b<0)),sv (bD (-t.b).natAbs),.bool (decide (-t.c<0)),sv (bD (-t.c).natAbs),.bool (decide (t.a<0)),sv (bD (t.a).natAbs)]:=rfl
theorem Qmx (K:Nat) (w:World) (t:Tn) (hK:K≤14000000000000) (ht:BdT K t) :
  Calls Tryz.prog 132 #[.agg (iq t)] w (aP fun v w'=>Kp [] w w'∧v=.agg (iq t.back)):=by
 refine Q9 [⟨1,1,[0,1,2,3,5,6,8,9,4,7,10,11],[]⟩] [] au [] Tryz.func132 rfl mixed (by kernel_rfl) Tryz.ntmps132 Tryz.results132 rfl ⟨by simp,by simp⟩ au ?_
 simp only[toS,Qd,Qt,Qk,Ql,ay,Qg,QA,aC]
 repeat' first|apply jS|apply jO|apply jN|refine Qc fun _=>?_|refine QB fun _=>?_|apply jT
 rename_i b1 b2
 refine Z7 [(b1,.cells (iq t) 117)] Qy ?_
 repeat' first|refine Q3 ?_|refine Qc8 (k:=_) (h:=?_)|fail
 refine Q5 aA rfl aH rfl (fun w hk hs=>Q8c w _ t.b K (Qi ht.b) oq) fun w v w' _ _ _ hR=>?_
 subst hR
 skip
 refine Q5 aA rfl aH rfl (fun w hk hs=>Q8c w _ t.c K (Qi ht.c) oq) fun w v w' _ _ _ hR=>?_
 subst hR
 skip
 refine ZP (l:=[(0,Wv t.d),(1,Wv (-t.b)),(2,Wv (-t.c)),(3,Wv t.a)]) (cs:=#[.bool (decide (t.d<0)),sv (bD (t.d).natAbs),.bool (decide (-t.b<0)),sv (bD (-t.b).natAbs),.bool (decide (-t.c<0)),sv (bD (-t.c).natAbs),.bool (decide (t.a<0)),sv (bD (t.a).natAbs)]) rfl rfl rfl (by kernel_rfl) ?_
 repeat' first|apply jN|apply jT|refine Q2 ?_|refine Q2 ?_|apply jR
 exact QQ 0 rfl rfl rfl (fun a w st=>⟨st.kp,by rw[Qjp]⟩)


theorem ZS (A B:aj):keys (A++B)=keys A++keys B:=by simp[keys]
theorem Qaw:∀ (ts:List TR),keys (tH ts)=(ts.map fun t=>keys t.1).flatten
 | []=>rfl
 | t::ts=>by
  show keys (t.1++tH ts)=_
  rw[ZS,Qaw ts];rfl
theorem Q43 {N N':aj} {v:Value} {cc:Nat} {ts ts':List TR} (h:bY N v cc ts) (h':bY N' v cc ts') (hl:ts'.length=ts.length) (hV:∀ a,tv ts' a=tv ts a):keys (tH ts')=keys (tH ts):=by
 rw[Qaw,Qaw]
 congr 1
 refine List.ext_getElem (by simpa using hl) fun i h1 h2=>?_
 have hi:i<ts.length:=by simpa using h2
 have a1:=h.row hi
 have a2:=h'.row (i:=i) oq
 rw[hV i]at a2
 have e1:ts.getD i dT=ts[i]:=by rw[List.getD,List.getElem?_eq_getElem hi];rfl
 have e2:ts'.getD i dT=ts'[i]:=by rw[List.getD,List.getElem?_eq_getElem oq];rfl
 rw[e1]at a1
 rw[e2]at a2
 simp only[List.getElem_map]
 exact Q0i a2 a1
def Qes (N:aj) (ts:List TR) (v:Value) (cc:Nat) (g:Nat→Nat→Int) (w w':World):Prop :=
 Kp (keys (N++tH ts)) w w'∧∃ ts',keys (N++tH ts')=keys (N++tH ts)∧InW (N++tH ts') w'∧bY N v cc ts'∧ts'.length=ts.length∧(∀ a,tv ts' a=tv ts a)∧∀ a b,tM ts' a b=g a b

theorem Qba (K:Nat) (w:World) (v:Value) (N:aj) (ts:List TR) (cc i k:Nat) (t:Tn) (hT:bY N v cc ts) (hs:aI (N++tH ts) w) (hi:i<ts.length) (hk:k<ts.length) (hik:i≠k) (hr:ts.length≤200) (hcc:cc≤200)
  (hK:K≤14000000000000) (ht:BdT K t) (hb:∀ a b,(tM ts a b).natAbs<256 ^ K) :
  Calls Tryz.prog 131 #[v,nv i,nv k,.agg (iq t)] w (aP fun _ w'=>Qes N ts v cc (fun a b=>if a=k∧b<cc then t.q (tM ts i b) (tM ts k b) else if a=i∧b<cc then t.p (tM ts i b) (tM ts k b) else tM ts a b) w w'):=by
 have hM:=Zk hs
 refine Q9 [⟨4,4,[],[]⟩] (keys (N++tH ts)) hM (N++(tH ts++[])) Tryz.func131 rfl mixed (by kernel_rfl) Tryz.ntmps131 Tryz.results131 rfl (by simpa using hs) (fun p hp=>List.mem_map.2 ⟨p,by simpa using hp,rfl⟩) ?_
 simp only[toS,Qd,Qt,Qk,Ql,ay,Qg,QA,aC]
 have hV:∀ a,tv ts a=tv ts a:=fun _=>rfl
 repeat' first|apply jS|apply jO|apply jN|apply jT|refine Q1 ?_|refine Ym (h:=?_)|refine Zo (h:=?_)|refine Yc (h:=?_)|refine QB fun _=>?_|apply jB
 rename_i b7
 refine Qp (ι:=Nat × List TR) ⟨fun z=>[(14,nv z.1),(13,nv cc),(7,.pointer (some ⟨b7,0,none⟩)),(0,v),(1,nv i),(2,nv k)],fun z=>[(b7,.cells (iq t) 117)]++(N++(tH z.2++[])),
  fun z=>z.1≤cc∧bY N v cc z.2∧z.2.length=ts.length∧(∀ a,tv z.2 a=tv ts a)∧∀ a b,tM z.2 a b=if a=k∧b<z.1 then t.q (tM ts i b) (tM ts k b) else if a=i∧b<z.1 then t.p (tM ts i b) (tM ts k b) else tM ts a b,fun z=>cc-z.1⟩ (0,ts)
  ⟨by omega,hT,rfl,hV,fun a b=>by rw[if_neg oq,if_neg oq]⟩ aF (HSub.refl _) (fun z hz=>?_)
 obtain⟨c,t1⟩:=z
 obtain⟨hc,hT1,hl1,hV1,hM1⟩:=hz
 dsimp only at hc hT1 hl1 hV1 hM1 ⊢
 have hi1:i<t1.length:=by omega
 have hk1:k<t1.length:=by omega
 by_cases hlt:c<cc
 ·have e1:tM t1 i c=tM ts i c:=by rw[hM1,if_neg oq,if_neg oq]
  have e2:tM t1 k c=tM ts k c:=by rw[hM1,if_neg oq,if_neg oq]
  repeat' first|apply jS|apply jO|apply jD|apply jN|apply jT|refine Q1 ?_|refine Q0 ?_|refine Q7 ?_|refine QW (h:=?_)|refine Zo (h:=?_)|refine Y2 (h:=?_)|refine Yc (h:=?_)|(refine Qs (h1:=?_) (h2:=?_)<;>intro hc<;>try omega)|apply jK|refine Q8 rfl ?_|apply jB
  refine Q5 aA rfl aH rfl (fun w _ _=>Qmu K w t (tM t1 i c) (tM t1 k c) hK ht (by rw[e1];exact hb i c) (by rw[e2];exact hb k c)) fun w v w' _ _ _ hR=>?_
  rw[e1,e2]at hR
  subst hR
  repeat' first|refine Q1 ?_|refine QW (h:=?_)|refine Qv (h:=?_)|fail
  refine Wr (A:=[_]) (B:=[]) (i:=i) (j:=c) (V:=tv ts) (u:=t.p (tM ts i c) (tM ts k c)) hV1 hT1 rfl rfl aA rfl rfl hi1 hlt (fun t2 hT2 hl2 hV2 hM2=>?_)
  repeat' first|refine QW (h:=?_)|fail
  refine Wr (A:=[_]) (B:=[]) (i:=k) (j:=c) (V:=tv ts) (u:=t.q (tM ts i c) (tM ts k c)) hV2 hT2 rfl rfl aA rfl rfl oq hlt (fun t3 hT3 hl3 hV3 hM3=>?_)
  repeat' first|apply jO|apply jN|apply jT|refine Q1 ?_|refine Qj ?_|apply jW
  refine Qa (c+1,t3) ⟨by dsimp only;omega,hT3,by dsimp only;omega,hV3,fun a b=>?_⟩ aY aF (HSub.refl _)
  dsimp only
  rw[hM3,hM2,hM1]
  by_cases h1:a=k
  ·subst h1
   by_cases h2:b=c
   ·subst h2;rw[if_pos ⟨rfl,rfl⟩,if_pos ⟨rfl,by omega⟩]
   ·rw[if_neg oq,if_neg oq]
    by_cases h3:b<c
    ·rw[if_pos ⟨rfl,h3⟩,if_pos ⟨rfl,by omega⟩]
    ·rw[if_neg oq,if_neg oq,if_neg oq,if_neg oq]
  ·rw[if_neg oq,if_neg (show ¬(a=k∧b<c) by omega),if_neg (show ¬(a=k∧b<c+1) by omega)]
   by_cases h2:a=i
   ·subst h2
    by_cases h3:b=c
    ·subst h3;rw[if_pos ⟨rfl,rfl⟩,if_pos ⟨rfl,by omega⟩]
    ·rw[if_neg oq]
     by_cases h4:b<c
     ·rw[if_pos ⟨rfl,h4⟩,if_pos ⟨rfl,by omega⟩]
     ·rw[if_neg oq,if_neg oq]
   ·rw[if_neg oq,if_neg oq,if_neg oq]
 ·repeat' first|apply jS|apply jO|apply jN|apply jT|(refine Qs (h1:=?_) (h2:=?_)<;>intro hc<;>try omega)|apply jU|apply jE|refine Q4 rfl ?_|apply Qe
  obtain rfl:c=cc:=by omega
  exact Yq (fun a w' st=>⟨st.kp,t1,by rw[ZS,ZS,Q43 hT hT1 hl1 hV1],fun p hp=>st.hs.blk p (by simpa using Or.inr hp),hT1,hl1,hV1,hM1⟩)

theorem Qbb (K:Nat) (w:World) (v:Value) (N:aj) (ts:List TR) (cc i k:Nat) (t:Tn) (hT:bY N v cc ts) (hs:aI (N++tH ts) w) (hi:i<cc) (hk:k<cc) (hik:i≠k) (hr:ts.length≤200) (hcc:cc≤200)
  (hK:K≤14000000000000) (ht:BdT K t) (hb:∀ a b,(tM ts a b).natAbs<256 ^ K) :
  Calls Tryz.prog 133 #[v,nv i,nv k,.agg (iq t)] w (aP fun _ w'=>Qes N ts v cc (fun a b=>if a<ts.length∧b=k then t.q (tM ts a i) (tM ts a k) else if a<ts.length∧b=i then t.p (tM ts a i) (tM ts a k) else tM ts a b) w w'):=by
 have hM:=Zk hs
 obtain⟨r,hrl⟩:∃ r,r=ts.length:=⟨_,rfl⟩
 refine Q9 [⟨4,4,[],[]⟩] (keys (N++tH ts)) hM (N++(tH ts++[])) Tryz.func133 rfl mixed (by kernel_rfl) Tryz.ntmps133 Tryz.results133 rfl (by simpa using hs) (fun p hp=>List.mem_map.2 ⟨p,by simpa using hp,rfl⟩) ?_
 simp only[toS,Qd,Qt,Qk,Ql,ay,Qg,QA,aC]
 have hV:∀ a,tv ts a=tv ts a:=fun _=>rfl
 have hrl':ts.length=r:=hrl.symm
 repeat' first|apply jS|apply jO|apply jN|apply jT|refine Q1 ?_|refine Q1c (h:=?_)|refine QB fun _=>?_|apply jB
 rename_i b7
 refine Qp (ι:=Nat × List TR) ⟨fun z=>[(11,nv z.1),(10,nv r),(7,.pointer (some ⟨b7,0,none⟩)),(0,v),(1,nv i),(2,nv k)],fun z=>[(b7,.cells (iq t) 117)]++(N++(tH z.2++[])),
  fun z=>z.1≤r∧bY N v cc z.2∧z.2.length=ts.length∧(∀ a,tv z.2 a=tv ts a)∧∀ a b,tM z.2 a b=if a<z.1∧b=k then t.q (tM ts a i) (tM ts a k) else if a<z.1∧b=i then t.p (tM ts a i) (tM ts a k) else tM ts a b,fun z=>r-z.1⟩ (0,ts)
  ⟨by omega,hT,rfl,hV,fun a b=>by rw[if_neg oq,if_neg oq]⟩ aF (HSub.refl _) (fun z hz=>?_)
 obtain⟨c,t1⟩:=z
 obtain⟨hc,hT1,hl1,hV1,hM1⟩:=hz
 dsimp only at hc hT1 hl1 hV1 hM1 ⊢
 by_cases hlt:c<r
 ·have hc1:c<t1.length:=by omega
  have e1:tM t1 c i=tM ts c i:=by rw[hM1,if_neg oq,if_neg oq]
  have e2:tM t1 c k=tM ts c k:=by rw[hM1,if_neg oq,if_neg oq]
  repeat' first|apply jS|apply jO|apply jD|apply jN|apply jT|refine Q1 ?_|refine Q0 ?_|refine Q7 ?_|refine QW (h:=?_)|refine Zo (h:=?_)|refine Y2 (h:=?_)|refine Yc (h:=?_)|(refine Qs (h1:=?_) (h2:=?_)<;>intro hc<;>try omega)|apply jK|refine Q8 rfl ?_|apply jB
  refine Q5 aA rfl aH rfl (fun w _ _=>Qmu K w t (tM t1 c i) (tM t1 c k) hK ht (by rw[e1];exact hb c i) (by rw[e2];exact hb c k)) fun w v w' _ _ _ hR=>?_
  rw[e1,e2]at hR
  subst hR
  repeat' first|refine Q1 ?_|refine QW (h:=?_)|refine Qv (h:=?_)|fail
  refine Wr (A:=[_]) (B:=[]) (i:=c) (j:=i) (V:=tv ts) (u:=t.p (tM ts c i) (tM ts c k)) hV1 hT1 rfl rfl aA rfl rfl hc1 hi (fun t2 hT2 hl2 hV2 hM2=>?_)
  repeat' first|refine QW (h:=?_)|fail
  refine Wr (A:=[_]) (B:=[]) (i:=c) (j:=k) (V:=tv ts) (u:=t.q (tM ts c i) (tM ts c k)) hV2 hT2 rfl rfl aA rfl rfl oq hk (fun t3 hT3 hl3 hV3 hM3=>?_)
  repeat' first|apply jO|apply jN|apply jT|refine Q1 ?_|refine Qj ?_|apply jW
  refine Qa (c+1,t3) ⟨by dsimp only;omega,hT3,by dsimp only;omega,hV3,fun a b=>?_⟩ aY aF (HSub.refl _)
  dsimp only
  rw[hM3,hM2,hM1]
  by_cases h1:a=c
  ·subst h1
   by_cases h2:b=k
   ·subst h2;rw[if_pos ⟨rfl,rfl⟩,if_pos ⟨by omega,rfl⟩]
   ·rw[if_neg oq,if_neg (show ¬(a<a∧b=k) by omega),if_neg (show ¬(a<a∧b=i) by omega),if_neg (show ¬(a<a+1∧b=k) by omega)]
    by_cases h3:b=i
    ·subst h3;rw[if_pos ⟨rfl,rfl⟩,if_pos ⟨by omega,rfl⟩]
    ·rw[if_neg oq,if_neg oq]
  ·rw[if_neg oq,if_neg (show ¬(a=c∧b=i) by omega)]
   have e3:(a<c+1∧b=k)↔(a<c∧b=k):=by omega
   have e4:(a<c+1∧b=i)↔(a<c∧b=i):=by omega
   simp only[e3,e4]
 ·repeat' first|apply jS|apply jO|apply jN|apply jT|(refine Qs (h1:=?_) (h2:=?_)<;>intro hc<;>try omega)|apply jU|apply jE|refine Q4 rfl ?_|apply Qe
  obtain rfl:c=r:=by omega
  exact Yq (fun a w' st=>⟨st.kp,t1,by rw[ZS,ZS,Q43 hT hT1 hl1 hV1],fun p hp=>st.hs.blk p (by simpa using Or.inr hp),hT1,hl1,hV1,fun a b=>by rw[hM1,hrl']⟩)


theorem Q89 (K:Nat) (w:World) (v:Value) (N:aj) (ts:List TR) (cc i j:Nat) (k:Int) (hT:bY N v cc ts) (hs:aI (N++tH ts) w) (hi:i<ts.length) (hj:j<ts.length) (hij:i≠j) (hr:ts.length≤200) (hcc:cc≤200)
  (hK:K≤490000000000) (hk:k.natAbs<256 ^ K) (hb:∀ a b,(tM ts a b).natAbs<256 ^ K) :
  Calls Tryz.prog 139 #[v,nv i,nv j,Wv k] w (aP fun _ w'=>Qes N ts v cc (fun a b=>if a=i∧b<cc then tM ts i b+k*tM ts j b else tM ts a b) w w'):=by
 have hM:=Zk hs
 refine Q9 [⟨5,2,[],[]⟩] (keys (N++tH ts)) hM (N++(tH ts++[])) Tryz.func139 rfl mixed (by kernel_rfl) Tryz.ntmps139 Tryz.results139 rfl (by simpa using hs) (fun p hp=>List.mem_map.2 ⟨p,by simpa using hp,rfl⟩) ?_
 simp only[toS,Qd,Qt,Qk,Ql,ay,Qg,QA,aC]
 have hV:∀ a,tv ts a=tv ts a:=fun _=>rfl
 repeat' first|apply jS|apply jO|apply jN|apply jT|refine Q0 ?_|refine QB fun _=>?_|apply jB
 rename_i b7
 refine Qp (ι:=Nat × List TR) ⟨fun z=>[(8,nv z.1),(7,.pointer (some ⟨b7,0,none⟩)),(0,v),(1,nv i),(2,nv j)],fun z=>[(b7,.cells (wc k) 35)]++(N++(tH z.2++[])),
  fun z=>z.1≤cc∧bY N v cc z.2∧z.2.length=ts.length∧(∀ a,tv z.2 a=tv ts a)∧∀ a b,tM z.2 a b=if a=i∧b<z.1 then tM ts i b+k*tM ts j b else tM ts a b,fun z=>cc-z.1⟩ (0,ts)
  ⟨by omega,hT,rfl,hV,fun a b=>by rw[if_neg oq]⟩ aF (HSub.refl _) (fun z hz=>?_)
 obtain⟨c,t1⟩:=z
 obtain⟨hc,hT1,hl1,hV1,hM1⟩:=hz
 dsimp only at hc hT1 hl1 hV1 hM1 ⊢
 have hi1:i<t1.length:=by omega
 have hj1:j<t1.length:=by omega
 by_cases hlt:c<cc
 ·have e1:tM t1 i c=tM ts i c:=by rw[hM1,if_neg oq]
  have e2:tM t1 j c=tM ts j c:=by rw[hM1,if_neg oq]
  repeat' first|apply jS|apply jO|apply jN|apply jT|refine Q1 ?_|refine Ym (h:=?_)|refine QW (h:=?_)|refine Zo (h:=?_)|refine Y2 (h:=?_)|refine Yc (h:=?_)|(refine Qs (h1:=?_) (h2:=?_)<;>intro hc<;>try omega)|apply jK|refine Q8 rfl ?_|apply jB
  refine Q5 aA rfl aH rfl (fun w _ _=>Y5 w _ (tM t1 j c) K (Qi (by rw[e2];exact hb j c)) oq) fun w v w' _ _ _ hR=>?_
  rw[e2]at hR
  subst hR
  by_cases hz:tM ts j c=0
  ·rw[show (tM ts j c).sign=0 by rw[hz];rfl]
   repeat' first|apply jO|apply jN|apply jT|refine Q1 ?_|refine Q0 ?_|refine Qj ?_|(refine Ze (h1:=?_) (h2:=?_)<;>intro hc<;>try omega)|apply jK|refine Q4 rfl ?_|apply jW
   refine Qa (c+1,t1) ⟨by dsimp only;omega,hT1,by dsimp only;omega,hV1,fun a b=>?_⟩ aY aF (HSub.refl _)
   dsimp only
   rw[hM1]
   by_cases h1:a=i∧b<c
   ·rw[if_pos h1,if_pos oq]
   ·rw[if_neg h1]
    by_cases h2:a=i∧b<c+1
    ·obtain⟨rfl,h3⟩:=h2
     obtain rfl:b=c:=by omega
     rw[if_pos ⟨rfl,h3⟩,hz];omega
    ·rw[if_neg h2]
  ·have hsz:¬(tM ts j c).sign=0:=fun h=>hz (Int.sign_eq_zero_iff_zero.1 h)
   repeat' first|apply jD|apply jN|apply jT|refine Q1 ?_|refine Q7 ?_|refine QW (h:=?_)|refine Zo (h:=?_)|refine Y2 (h:=?_)|refine Yc (h:=?_)|(refine Ze (h1:=?_) (h2:=?_)<;>intro hc<;>try omega)|refine Q8 rfl ?_
   refine Q5 aA rfl aH rfl (fun w _ _=>Q9z w _ _ k (tM t1 j c) K (Qi hk) (Qi (by rw[e2];exact hb j c)) oq) fun w v w' _ _ _ hR=>?_
   rw[e2]at hR
   subst hR
   skip
   refine Q5 aA rfl aH rfl (fun w _ _=>Q5h w _ _ (tM t1 i c) (k*tM ts j c) (K+K) (Qi (by rw[e1];exact Y6 (hb i c) oq)) (Qi (X2 hk (hb j c))) oq) fun w v w' _ _ _ hR=>?_
   rw[e1]at hR
   subst hR
   repeat' first|refine QW (h:=?_)|fail
   refine Wr (A:=[_]) (B:=[]) (i:=i) (j:=c) (V:=tv ts) (u:=tM ts i c+k*tM ts j c) hV1 hT1 rfl rfl aA rfl rfl hi1 hlt (fun t2 hT2 hl2 hV2 hM2=>?_)
   repeat' first|apply jO|apply jN|apply jT|refine Q1 ?_|refine Q0 ?_|refine Qj ?_|apply jW
   refine Qa (c+1,t2) ⟨by dsimp only;omega,hT2,by dsimp only;omega,hV2,fun a b=>?_⟩ aY aF (HSub.refl _)
   dsimp only
   rw[hM2,hM1]
   by_cases h1:a=i∧b=c
   ·obtain⟨rfl,rfl⟩:=h1
    rw[if_pos ⟨rfl,rfl⟩,if_pos ⟨rfl,by omega⟩]
   ·rw[if_neg h1]
    have e3:(a=i∧b<c+1)↔(a=i∧b<c):=by omega
    simp only[e3]
 ·repeat' first|apply jS|apply jO|apply jN|apply jT|refine Q1 ?_|refine Ym (h:=?_)|refine Zo (h:=?_)|refine Yc (h:=?_)|(refine Qs (h1:=?_) (h2:=?_)<;>intro hc<;>try omega)|apply jU|apply jE|refine Q4 rfl ?_|apply Qe
  obtain rfl:c=cc:=by omega
  exact Yq (fun a w' st=>⟨st.kp,t1,by rw[ZS,ZS,Q43 hT hT1 hl1 hV1],fun p hp=>st.hs.blk p (by simpa using Or.inr hp),hT1,hl1,hV1,hM1⟩)

theorem Q8a (K:Nat) (w:World) (v:Value) (N:aj) (ts:List TR) (cc i j:Nat) (k:Int) (hT:bY N v cc ts) (hs:aI (N++tH ts) w) (hi:i<cc) (hj:j<cc) (hij:i≠j) (hr:ts.length≤200) (hcc:cc≤200)
  (hK:K≤490000000000) (hk:k.natAbs<256 ^ K) (hb:∀ a b,(tM ts a b).natAbs<256 ^ K) :
  Calls Tryz.prog 140 #[v,nv i,nv j,Wv k] w (aP fun _ w'=>Qes N ts v cc (fun a b=>if a<ts.length∧b=i then tM ts a i+k*tM ts a j else tM ts a b) w w'):=by
 have hM:=Zk hs
 obtain⟨r,hrl⟩:∃ r,r=ts.length:=⟨_,rfl⟩
 refine Q9 [⟨5,2,[],[]⟩] (keys (N++tH ts)) hM (N++(tH ts++[])) Tryz.func140 rfl mixed (by kernel_rfl) Tryz.ntmps140 Tryz.results140 rfl (by simpa using hs) (fun p hp=>List.mem_map.2 ⟨p,by simpa using hp,rfl⟩) ?_
 simp only[toS,Qd,Qt,Qk,Ql,ay,Qg,QA,aC]
 have hV:∀ a,tv ts a=tv ts a:=fun _=>rfl
 have hrl':ts.length=r:=hrl.symm
 repeat' first|apply jS|apply jO|apply jN|apply jT|refine Q0 ?_|refine QB fun _=>?_|apply jB
 rename_i b7
 refine Qp (ι:=Nat × List TR) ⟨fun z=>[(8,nv z.1),(7,.pointer (some ⟨b7,0,none⟩)),(0,v),(1,nv i),(2,nv j)],fun z=>[(b7,.cells (wc k) 35)]++(N++(tH z.2++[])),
  fun z=>z.1≤r∧bY N v cc z.2∧z.2.length=ts.length∧(∀ a,tv z.2 a=tv ts a)∧∀ a b,tM z.2 a b=if a<z.1∧b=i then tM ts a i+k*tM ts a j else tM ts a b,fun z=>r-z.1⟩ (0,ts)
  ⟨by omega,hT,rfl,hV,fun a b=>by rw[if_neg oq]⟩ aF (HSub.refl _) (fun z hz=>?_)
 obtain⟨c,t1⟩:=z
 obtain⟨hc,hT1,hl1,hV1,hM1⟩:=hz
 dsimp only at hc hT1 hl1 hV1 hM1 ⊢
 by_cases hlt:c<r
 ·have hc1:c<t1.length:=by omega
  have e1:tM t1 c i=tM ts c i:=by rw[hM1,if_neg oq]
  have e2:tM t1 c j=tM ts c j:=by rw[hM1,if_neg oq]
  repeat' first|apply jS|apply jO|apply jN|apply jT|refine Q1 ?_|refine Q1c (h:=?_)|refine QW (h:=?_)|refine Zo (h:=?_)|refine Y2 (h:=?_)|refine Yc (h:=?_)|(refine Qs (h1:=?_) (h2:=?_)<;>intro hc<;>try omega)|apply jK|refine Q8 rfl ?_|apply jB
  refine Q5 aA rfl aH rfl (fun w _ _=>Y5 w _ (tM t1 c j) K (Qi (by rw[e2];exact hb c j)) oq) fun w v w' _ _ _ hR=>?_
  rw[e2]at hR
  subst hR
  by_cases hz:tM ts c j=0
  ·rw[show (tM ts c j).sign=0 by rw[hz];rfl]
   repeat' first|apply jO|apply jN|apply jT|refine Q1 ?_|refine Q0 ?_|refine Qj ?_|(refine Ze (h1:=?_) (h2:=?_)<;>intro hc<;>try omega)|apply jK|refine Q4 rfl ?_|apply jW
   refine Qa (c+1,t1) ⟨by dsimp only;omega,hT1,by dsimp only;omega,hV1,fun a b=>?_⟩ aY aF (HSub.refl _)
   dsimp only
   rw[hM1]
   by_cases h1:a<c∧b=i
   ·rw[if_pos h1,if_pos oq]
   ·rw[if_neg h1]
    by_cases h2:a<c+1∧b=i
    ·obtain⟨h3,rfl⟩:=h2
     obtain rfl:a=c:=by omega
     rw[if_pos ⟨h3,rfl⟩,hz];omega
    ·rw[if_neg h2]
  ·have hsz:¬(tM ts c j).sign=0:=fun h=>hz (Int.sign_eq_zero_iff_zero.1 h)
   repeat' first|apply jD|apply jN|apply jT|refine Q1 ?_|refine Q7 ?_|refine QW (h:=?_)|refine Zo (h:=?_)|refine Y2 (h:=?_)|refine Yc (h:=?_)|(refine Ze (h1:=?_) (h2:=?_)<;>intro hc<;>try omega)|refine Q8 rfl ?_
   refine Q5 aA rfl aH rfl (fun w _ _=>Q9z w _ _ k (tM t1 c j) K (Qi hk) (Qi (by rw[e2];exact hb c j)) oq) fun w v w' _ _ _ hR=>?_
   rw[e2]at hR
   subst hR
   skip
   refine Q5 aA rfl aH rfl (fun w _ _=>Q5h w _ _ (tM t1 c i) (k*tM ts c j) (K+K) (Qi (by rw[e1];exact Y6 (hb c i) oq)) (Qi (X2 hk (hb c j))) oq) fun w v w' _ _ _ hR=>?_
   rw[e1]at hR
   subst hR
   repeat' first|refine QW (h:=?_)|fail
   refine Wr (A:=[_]) (B:=[]) (i:=c) (j:=i) (V:=tv ts) (u:=tM ts c i+k*tM ts c j) hV1 hT1 rfl rfl aA rfl rfl hc1 hi (fun t2 hT2 hl2 hV2 hM2=>?_)
   repeat' first|apply jO|apply jN|apply jT|refine Q1 ?_|refine Q0 ?_|refine Qj ?_|apply jW
   refine Qa (c+1,t2) ⟨by dsimp only;omega,hT2,by dsimp only;omega,hV2,fun a b=>?_⟩ aY aF (HSub.refl _)
   dsimp only
   rw[hM2,hM1]
   by_cases h1:a=c∧b=i
   ·obtain⟨rfl,rfl⟩:=h1
    rw[if_pos ⟨rfl,rfl⟩,if_pos ⟨by omega,rfl⟩]
   ·rw[if_neg h1]
    have e3:(a<c+1∧b=i)↔(a<c∧b=i):=by omega
    simp only[e3]
 ·repeat' first|apply jS|apply jO|apply jN|apply jT|refine Q1 ?_|refine Q1c (h:=?_)|(refine Qs (h1:=?_) (h2:=?_)<;>intro hc<;>try omega)|apply jU|apply jE|refine Q4 rfl ?_|apply Qe
  obtain rfl:c=r:=by omega
  exact Yq (fun a w' st=>⟨st.kp,t1,by rw[ZS,ZS,Q43 hT hT1 hl1 hV1],fun p hp=>st.hs.blk p (by simpa using Or.inr hp),hT1,hl1,hV1,fun a b=>by rw[hM1,hrl']⟩)


section
variable {c:Cx} {Q:Exit→Act→World→Prop} {m:Mode} {F:ak} {H:aj} {r:List dA} {g:Option (Option Tmp × Bool)} {ns:Bool} {ty:TypeId} {N:aj} {v:Value} {cc:Nat} {ts:List TR}
theorem Xx {A B:aj} {f:FuncId} {args:Array Operand} {ats:Array TypeId} {vs:List Value} {dd:Option Tmp} {gg:Nat→Nat→Int} [TF c.P f] (hH:H=A++(N++(tH ts++B))) (hm:m.aW ns r) (hd:Qx c.n dd=true) (hg:Qh F g=some true) (ha:Ye F args.toList=some vs)
  (hc:∀ w,aI (N++tH ts) w→Calls c.P f vs.toArray w (aP fun _ w'=>Qes N ts v cc gg w w'))
  (h:∀ u ts',bY N v cc ts'→ts'.length=ts.length→(∀ a,tv ts' a=tv ts a)→(∀ a b,tM ts' a b=gg a b)→JO c Q m.spent r (fD F dd u) (A++(N++(tH ts'++B)))) :
  JO c Q m (⟨dd,.call ⟨.value (.func f),args,ats⟩,ty,g,.seq,ns⟩::r) F H:=by
 refine Z2 (A:=A) (N:=N++tH ts) (B:=B) (by rw[hH,Vd]) hm hd hg ha (fun w _ hs=>hc w (HSub.bU (by rw[hH, ← Vd N];exact Qr QI) hs)) (fun w u w' _ _ _ hR=>?_)
 obtain⟨ts',hk,hin,hT',hl,hV,hM⟩:=hR
 refine⟨N++tH ts',hk,hin,?_⟩
 have h1:=h u ts' hT' hl hV hM
 rw[Vd]
 exact h1
theorem Q1f {A B Hs:aj} {f:FuncId} {args:Array Operand} {ats:Array TypeId} {vs:List Value} {dd:Option Tmp} {gg:Nat→Nat→Int} [TF c.P f] (hH:H=A++(N++(tH ts++B))) (iD:HSub Hs (A++B)) (hd:Qx c.n dd=true) (hg:Qh F g=some true) (ha:Ye F args.toList=some vs)
  (hc:∀ w,aI (N++tH ts) w→Calls c.P f vs.toArray w (aP fun _ w'=>Qes N ts v cc gg w w'))
  (h:∀ u ts',bY N v cc ts'→ts'.length=ts.length→(∀ a,tv ts' a=tv ts a)→(∀ a b,tM ts' a b=gg a b)→JO c Q (.draw Hs true) r (fD F dd u) (A++(N++(tH ts'++B)))) :
  JO c Q (.draw Hs true) (⟨dd,.call ⟨.value (.func f),args,ats⟩,ty,g,.seq,ns⟩::r) F H:=by
 refine Qkb (A:=A) (N:=N++tH ts) (B:=B) (by rw[hH,Vd]) iD hd hg ha (fun w _ hs=>hc w (HSub.bU (by rw[hH, ← Vd N];exact Qr QI) hs)) (fun w u w' _ _ _ hR=>?_)
 obtain⟨ts',hk,hin,hT',hl,hV,hM⟩:=hR
 refine⟨N++tH ts',hk,hin,?_⟩
 have h1:=h u ts' hT' hl hV hM
 rw[Vd]
 exact h1
end

structure WV where
 u:Value
 ui:Value
 d:Value
 v:Value
 vi:Value
 Nu:aj
 fB:aj
 Nd:aj
 Nv:aj
 fG:aj
structure WT where
 u:List TR
 ui:List TR
 d:List TR
 v:List TR
 vi:List TR
def WV.cells (W:WV) (m n:Nat):Array Value:=#[W.u,W.ui,W.d,W.v,W.vi,nv m,nv n]
def bF (b:Nat) (W:WV) (m n:Nat) (T:WT):aj:=(b,.cells (W.cells m n) 110)::(W.Nu++(tH T.u++(W.fB++(tH T.ui++(W.Nd++(tH T.d++(W.Nv++(tH T.v++(W.fG++(tH T.vi++[]))))))))))
def tL (ts:List TR):List (List Int):=ts.map (·.2.2)
theorem Qqn (ts:List TR) (a b:Nat):tM ts a b=gE (tL ts) a b:=by
 unfold tM gE tL tr'
 have e:(ts.map (·.2.2)).getD a []=(ts.getD a dT).2.2:=by
  simp only[List.getD,List.getElem?_map]
  cases h:ts[a]?<;>simp[dT]
 rw[e]
structure fM (N:aj) (v:Value) (r c:Nat) (ts:List TR) (g:List (List Int)):Prop where
 T:bY N v c ts
 len:ts.length=r
 eq:tL ts=g
theorem fM.rc {N:aj} {v:Value} {r c:Nat} {ts:List TR} {g:List (List Int)} (h:fM N v r c ts g):Rec r c g :=
 ⟨by rw [← h.eq]; unfold tL; rw [List.length_map, h.len], fun x hx => by
  rw[← h.eq]at hx
  unfold tL at hx
  obtain⟨t,ht,rfl⟩:=List.mem_map.1 hx
  exact(h.T.rows t ht).len⟩
theorem fM.at {N:aj} {v:Value} {r c:Nat} {ts:List TR} {g:List (List Int)} (h:fM N v r c ts g) (a b:Nat):tM ts a b=gE g a b:=by rw[Qqn,h.eq]
theorem fM.of {N:aj} {v:Value} {r c:Nat} {ts ts':List TR} {g g':List (List Int)} (h:fM N v r c ts g) (hT:bY N v c ts') (hl:ts'.length=ts.length) (hg:Rec r c g') (e:∀ a b,a<r→b<c→tM ts' a b=gE g' a b):fM N v r c ts' g':=by
 have h0:fM N v r c ts' (tL ts'):=⟨hT,by rw[hl,h.len],rfl⟩
 exact⟨hT,h0.len,h0.rc.ext hg fun a b ha hb=>by rw[← Qqn];exact e a b ha hb⟩
structure dw (W:WV) (m n:Nat) (T:WT) (S:Sm):Prop where
 u:fM W.Nu W.u m m T.u S.u
 ui:fM W.fB W.ui m m T.ui S.ui
 d:fM W.Nd W.d m n T.d S.d
 v:fM W.Nv W.v n n T.v S.v
 vi:fM W.fG W.vi n n T.vi S.vi
structure bK (T T':WT):Prop where
 u:∀ a,tv T'.u a=tv T.u a
 ui:∀ a,tv T'.ui a=tv T.ui a
 d:∀ a,tv T'.d a=tv T.d a
 v:∀ a,tv T'.v a=tv T.v a
 vi:∀ a,tv T'.vi a=tv T.vi a
theorem bK.refl (T:WT):bK T T:=⟨fun _=>rfl,fun _=>rfl,fun _=>rfl,fun _=>rfl,fun _=>rfl⟩
theorem fM.keys {N:aj} {v:Value} {r c:Nat} {ts ts':List TR} {g g':List (List Int)} (h:fM N v r c ts g) (h':fM N v r c ts' g') (hV:∀ a,tv ts' a=tv ts a):Go.Proofs.YtljmapfihjkafaaGreatDoor.keys (tH ts')=Go.Proofs.YtljmapfihjkafaaGreatDoor.keys (tH ts):=Q43 h.T h'.T (by rw[h.len,h'.len]) hV
theorem Xr {b m n:Nat} {W:WV} {T T':WT} {S S':Sm} (h:dw W m n T S) (h':dw W m n T' S') (hV:bK T T'):keys (bF b W m n T')=keys (bF b W m n T):=by
 unfold bF
 simp only[keys,List.map_cons,Vl]
 have e1:=h.u.keys h'.u hV.u
 have e2:=h.ui.keys h'.ui hV.ui
 have e3:=h.d.keys h'.d hV.d
 have e4:=h.v.keys h'.v hV.v
 have e5:=h.vi.keys h'.vi hV.vi
 unfold keys at e1 e2 e3 e4 e5
 rw[e1,e2,e3,e4,e5]
def jJ (b:Nat) (W:WV) (m n:Nat) (T:WT) (S':Sm) (w w':World):Prop :=
 Kp (keys (bF b W m n T)) w w'∧∃ T',keys (bF b W m n T')=keys (bF b W m n T)∧InW (bF b W m n T') w'∧dw W m n T' S'∧bK T T'

theorem BdT.flip {K:Nat} {t:Tn} (h:BdT K t):BdT K t.flip:=⟨h.d,by show (-t.c).natAbs<_;rw[Int.natAbs_neg];exact h.c,by show (-t.b).natAbs<_;rw[Int.natAbs_neg];exact h.b,h.a⟩
theorem fM.rows {N:aj} {v:Value} {r c i k:Nat} {ts ts':List TR} {g:List (List Int)} {t:Tn} (h:fM N v r c ts g) (hi:i<r) (hk:k<r) (hT:bY N v c ts') (hl:ts'.length=ts.length)
  (e:∀ a b,tM ts' a b=if a=k∧b<c then t.q (tM ts i b) (tM ts k b) else if a=i∧b<c then t.p (tM ts i b) (tM ts k b) else tM ts a b):fM N v r c ts' (XJ i k t g) :=
 h.of hT hl (h.rc.rows hi hk) fun a b ha hb=>by
  rw[e,Wj h.rc hi hk hb,h.at,h.at,h.at]
  have e1:(a=k∧b<c)↔a=k:=by omega
  have e2:(a=i∧b<c)↔a=i:=by omega
  simp only[e1,e2]
theorem fM.cols {N:aj} {v:Value} {r c i k:Nat} {ts ts':List TR} {g:List (List Int)} {t:Tn} (h:fM N v r c ts g) (hi:i<c) (hk:k<c) (hT:bY N v c ts') (hl:ts'.length=ts.length)
  (e:∀ a b,tM ts' a b=if a<ts.length∧b=k then t.q (tM ts a i) (tM ts a k) else if a<ts.length∧b=i then t.p (tM ts a i) (tM ts a k) else tM ts a b):fM N v r c ts' (Xq i k t g) :=
 h.of hT hl h.rc.cols fun a b ha hb=>by
  rw[e,Wk h.rc hi hk ha,h.at,h.at,h.at,h.len]
  have e1:(a<r∧b=k)↔b=k:=by omega
  have e2:(a<r∧b=i)↔b=i:=by omega
  simp only[e1,e2]

theorem Qb6 (K:Nat) (w:World) (b:Nat) (W:WV) (m n:Nat) (T:WT) (S:Sm) (i k:Nat) (t:Tn) (hW:dw W m n T S) (hs:aI (bF b W m n T) w) (hi:i<m) (hk:k<m) (hik:i≠k) (hm:m≤200) (hn:n≤200)
  (hK:K≤14000000000000) (ht:BdT K t) (hb:Ok K S) :
  Calls Tryz.prog 95 #[.pointer (some ⟨b,0,none⟩),nv i,nv k,.agg (iq t)] w (aP fun _ w'=>jJ b W m n T (S.rows i k t) w w'):=by
 have hM:=Zk hs
 refine Q9 [⟨1,1,[],[]⟩,⟨2,1,[],[]⟩] (keys (bF b W m n T)) hM (bF b W m n T) Tryz.func95 rfl mixed (by kernel_rfl) Tryz.ntmps95 Tryz.results95 rfl hs (fun p hp=>List.mem_map.2 ⟨p,hp,rfl⟩) ?_
 simp only[toS,Qd,Qt,Qk,Ql,ay,Qg,QA,aC]
 have hlu:=hW.u.len
 have hlui:=hW.ui.len
 have hld:=hW.d.len
 unfold bF
 repeat' first|apply jS|apply jO|apply jD|apply jN|refine Q1 ?_|refine Q3 ?_|refine Qb ?_|refine Q7 ?_|refine Qz (h:=?_)|refine QB fun _=>?_|apply jT
 rename_i b7
 refine Xx (A:=(b7,.cells (iq t) 117)::(b,.cells (W.cells m n) 110)::(W.Nu++(tH T.u++(W.fB++tH T.ui)))) (B:=W.Nv++(tH T.v++(W.fG++(tH T.vi++[])))) (by simp only[Vi,Vv,Vd]) aA rfl aH rfl (fun w hs=>Qba K w W.d W.Nd T.d n i k t hW.d.T hs oq oq hik oq hn hK ht (fun x y=>by rw[hW.d.at];exact Zp hb.d x y)) (fun _ d' hTd hld' hVd hMd=>?_)
 simp only[Vi,Vv,Vd]
 repeat' first|apply jS|apply jD|apply jN|refine Q1 ?_|refine Q3 ?_|refine Qb ?_|refine Q7 ?_|refine Qz (h:=?_)|apply jT
 refine Xx (A:=[(b7,.cells (iq t) 117),(b,.cells (W.cells m n) 110)]) (B:=W.fB++(tH T.ui++(W.Nd++(tH d'++(W.Nv++(tH T.v++(W.fG++(tH T.vi++[])))))))) (by simp only[Vi,Vv,Vd]) aA rfl aH rfl (fun w hs=>Qba K w W.u W.Nu T.u m i k t hW.u.T hs oq oq hik oq hm hK ht (fun x y=>by rw[hW.u.at];exact Zp hb.u x y)) (fun _ u' jL hlu' hVu hMu=>?_)
 simp only[Vi,Vv,Vd]
 repeat' first|apply jS|apply jO|apply jN|refine Q7 ?_|apply jT
 refine Q5 aA rfl aH rfl (fun w _ _=>Qmx K w t hK ht) fun w v w' _ _ _ hR=>?_
 subst hR
 repeat' first|apply jN|refine Q2 ?_|refine Qc fun _=>?_|refine Q2 ?_|apply jT
 rename_i b8
 refine Z7 [(b8,.cells (iq t.back) 117),(b,.cells (W.cells m n) 110)] Qy ?_
 repeat' first|refine Q1 ?_|refine Q3 ?_|refine Qb ?_|refine Qc8 (k:=_) (h:=?_)|refine Qz (h:=?_)|fail
 refine ZP (l:=[(0,Wv t.back.a),(1,Wv t.back.c),(2,Wv t.back.b),(3,Wv t.back.d)]) (cs:=iq t.flip) rfl rfl rfl (by kernel_rfl) ?_
 skip
 refine Q1f (A:=(b8,.cells (iq t.back) 117)::(b7,.cells (iq t) 117)::(b,.cells (W.cells m n) 110)::(W.Nu++tH u')) (B:=W.Nd++(tH d'++(W.Nv++(tH T.v++(W.fG++(tH T.vi++[])))))) (by simp only[List.set_cons_zero,Vi,Vv,Vd]) Qy rfl aH rfl (fun w hs=>Qbb K w W.ui W.fB T.ui m i k t.flip hW.ui.T hs oq oq hik oq hm hK ht.flip (fun x y=>by rw[hW.ui.at];exact Zp hb.ui x y)) (fun _ w' hTw hlw hVw hMw=>?_)
 simp only[Vi,Vv,Vd]
 repeat' first|apply jN
 have hW':dw W m n ⟨u',w',d',T.v,T.vi⟩ (S.rows i k t):=⟨hW.u.rows hi hk jL hlu' hMu,hW.ui.cols hi hk hTw hlw hMw,hW.d.rows hi hk hTd hld' hMd,hW.v,hW.vi⟩
 have hV':bK T ⟨u',w',d',T.v,T.vi⟩:=⟨hVu,hVw,hVd,fun _=>rfl,fun _=>rfl⟩
 exact Yq (fun a w'' st=>⟨st.kp,_,Xr hW hW' hV',fun p hp=>st.hs.blk p (by unfold bF at hp;exact Ve _ (Ve _ hp)),hW',hV'⟩)

theorem Qb8 (K:Nat) (w:World) (b:Nat) (W:WV) (m n:Nat) (T:WT) (S:Sm) (i k:Nat) (t:Tn) (hW:dw W m n T S) (hs:aI (bF b W m n T) w) (hi:i<n) (hk:k<n) (hik:i≠k) (hm:m≤200) (hn:n≤200)
  (hK:K≤14000000000000) (ht:BdT K t) (hb:Ok K S) :
  Calls Tryz.prog 129 #[.pointer (some ⟨b,0,none⟩),nv i,nv k,.agg (iq t)] w (aP fun _ w'=>jJ b W m n T (S.cols i k t) w w'):=by
 have hM:=Zk hs
 refine Q9 [⟨1,1,[],[]⟩,⟨2,1,[],[]⟩] (keys (bF b W m n T)) hM (bF b W m n T) Tryz.func129 rfl mixed (by kernel_rfl) Tryz.ntmps129 Tryz.results129 rfl hs (fun p hp=>List.mem_map.2 ⟨p,hp,rfl⟩) ?_
 simp only[toS,Qd,Qt,Qk,Ql,ay,Qg,QA,aC]
 have hlv:=hW.v.len
 have hlvi:=hW.vi.len
 have hld:=hW.d.len
 unfold bF
 repeat' first|apply jS|apply jO|apply jD|apply jN|refine Q1 ?_|refine Q3 ?_|refine Qb ?_|refine Q7 ?_|refine Qz (h:=?_)|refine QB fun _=>?_|apply jT
 rename_i b7
 refine Xx (A:=(b7,.cells (iq t) 117)::(b,.cells (W.cells m n) 110)::(W.Nu++(tH T.u++(W.fB++tH T.ui)))) (B:=W.Nv++(tH T.v++(W.fG++(tH T.vi++[])))) (by simp only[List.set_cons_zero,Vi,Vv,Vd]) aA rfl aH rfl (fun w hs=>Qbb K w W.d W.Nd T.d n i k t hW.d.T hs oq oq hik oq hn hK ht (fun x y=>by rw[hW.d.at];exact Zp hb.d x y)) (fun _ d' hTd hld' hVd hMd=>?_)
 simp only[Vi,Vv,Vd]
 repeat' first|apply jS|apply jD|apply jN|refine Q1 ?_|refine Q3 ?_|refine Qb ?_|refine Q7 ?_|refine Qz (h:=?_)|apply jT
 refine Xx (A:=(b7,.cells (iq t) 117)::(b,.cells (W.cells m n) 110)::(W.Nu++(tH T.u++(W.fB++(tH T.ui++(W.Nd++tH d')))))) (B:=W.fG++(tH T.vi++[])) (by simp only[List.set_cons_zero,Vi,Vv,Vd]) aA rfl aH rfl (fun w hs=>Qbb K w W.v W.Nv T.v n i k t hW.v.T hs oq oq hik oq hn hK ht (fun x y=>by rw[hW.v.at];exact Zp hb.v x y)) (fun _ v' hTv hlv' hVv hMv=>?_)
 simp only[Vi,Vv,Vd]
 repeat' first|apply jS|apply jO|apply jN|refine Q7 ?_|apply jT
 refine Q5 aA rfl aH rfl (fun w _ _=>Qmx K w t hK ht) fun w v w' _ _ _ hR=>?_
 subst hR
 repeat' first|apply jN|refine Q2 ?_|refine Qc fun _=>?_|refine Q2 ?_|apply jT
 rename_i b8
 refine Z7 [(b8,.cells (iq t.back) 117),(b,.cells (W.cells m n) 110)] Qy ?_
 repeat' first|refine Q1 ?_|refine Q3 ?_|refine Qb ?_|refine Qc8 (k:=_) (h:=?_)|refine Qz (h:=?_)|fail
 refine ZP (l:=[(0,Wv t.back.a),(1,Wv t.back.c),(2,Wv t.back.b),(3,Wv t.back.d)]) (cs:=iq t.flip) rfl rfl rfl (by kernel_rfl) ?_
 skip
 refine Q1f (A:=(b8,.cells (iq t.back) 117)::(b7,.cells (iq t) 117)::(b,.cells (W.cells m n) 110)::(W.Nu++(tH T.u++(W.fB++(tH T.ui++(W.Nd++(tH d'++(W.Nv++tH v')))))))) (B:=[]) (by simp only[List.set_cons_zero,Vi,Vv,Vd]) Qy rfl aH rfl (fun w hs=>Qba K w W.vi W.fG T.vi n i k t.flip hW.vi.T hs oq oq hik oq hn hK ht.flip (fun x y=>by rw[hW.vi.at];exact Zp hb.vi x y)) (fun _ w' hTw hlw' hVw hMw=>?_)
 simp only[Vi,Vv,Vd]
 repeat' first|apply jN
 have hW':dw W m n ⟨T.u,T.ui,d',v',w'⟩ (S.cols i k t):=⟨hW.u,hW.ui,hW.d.cols hi hk hTd hld' hMd,hW.v.cols hi hk hTv hlv' hMv,hW.vi.rows hi hk hTw hlw' hMw⟩
 have hV':bK T ⟨T.u,T.ui,d',v',w'⟩:=⟨fun _=>rfl,fun _=>rfl,hVd,hVv,hVw⟩
 exact Yq (fun a w'' st=>⟨st.kp,_,Xr hW hW' hV',fun p hp=>st.hs.blk p (by unfold bF at hp;exact Ve _ (Ve _ hp)),hW',hV'⟩)

end Go.Proofs.YtljmapfihjkafaaGreatDoor

