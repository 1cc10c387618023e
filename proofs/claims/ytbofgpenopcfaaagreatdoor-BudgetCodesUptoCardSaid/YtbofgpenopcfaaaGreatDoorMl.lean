import Derived.Test.YtbofgpenopcfaaaGreatDoorMj
import Derived.Test.YtbofgpenopcfaaaGreatDoorMk
import Derived.Test.YtbofgpenopcfaaaGreatDoorMb
import Derived.Test.YtbofgpenopcfaaaGreatDoorMi
set_option maxHeartbeats 16000000
namespace Go.Proofs.YtbofgpenopcfaaaGreatDoor
open Go Go.RowKit
set_option linter.unusedSimpArgs false
set_option linter.unusedVariables false
set_option linter.unusedSectionVars false

def Ym (m:ZM):List (List Int):=(List.range m.r).map (fA m)
theorem Ww {n:Nat} (hn:n≤200):Ym (fF n)=fP n:=by
 unfold Ym fP
 refine List.map_congr_left fun i hi=>?_
 have hi:i<n:=List.mem_range.1 hi
 rw[Qa0 (m:=fF n) (XZ hn hn) hi]
 show tab n ((fF n).at i)=_
 unfold tab
 refine List.map_congr_left fun j hj=>?_
 have hj:j<n:=List.mem_range.1 hj
 exact Qj3 hi hj
def smC (m n:Nat) (E1 E2 E3 E4 E5:Value):Array Value:=#[nv m,nv m,E1,nv m,nv m,E2,nv m,nv n,E3,nv n,nv n,E4,nv n,nv n,E5]
def Qp2 (m n:Nat) (S:Sm) (w:World) (v:Value) (w':World):Prop :=
 ∃ N1 N2 N3 N4 N5 E1 E2 E3 E4 E5,v=.agg (smC m n E1 E2 E3 E4 E5)∧Dm m n S∧New (N1++(N2++(N3++(N4++N5)))) w w'∧aN N1 E1 (m*m) S.u.flatten∧aN N2 E2 (m*m) S.ui.flatten∧aN N3 E3 (m*n) S.d.flatten∧aN N4 E4 (n*n) S.v.flatten∧aN N5 E5 (n*n) S.vi.flatten

theorem dP.g {c':Cx} {H N:aj} {v:Value} {r c:Nat} {ts:List TR} {g:List (List Int)} {w:World} (h:dP N v r c ts g) (hk:Kp c'.M c'.w0 w) (hs:aG H w) (h1:HSub N H) (h2:HSub (tH ts) H):IsG w v r c g:=by
 refine⟨h.rc.len,ts.map (·.2.1),by rw[← h.len];exact(cO.rd (c:=c') h.T).at hk hs h1,fun i hi=>?_⟩
 have hi':i<ts.length:=by have:=h.len;omega
 have e1:(ts.map (·.2.1)).getD i (iv 0)=tv ts i:=by rw[List.getD,Qd7 hi'];rfl
 have e2:g.getD i []=tr' ts i:=by
  rw[← h.eq]
  unfold tL tr'
  rw[List.getD,List.getElem?_map,List.getD,List.getElem?_eq_getElem hi']
  rfl
 rw[e1,e2]
 exact(aN.rd (c:=c') (h.T.row hi')).at hk hs ((Q4v (Q4u hi')).trans h2)
theorem Q7n {r c:Nat} {g:List (List Int)} {N:aj} {v:Value} (hg:Rec r c g) (h:aN N v (gM r c g).e.length (gM r c g).e):aN N v (r*c) g.flatten:=by
 have e:(gM r c g).e.length=r*c:=QQ hg
 rw[e]at h
 exact h

section
variable {c:Cx} {Q:Exit→Act→World→Prop} {m:Mode} {F:ak} {H:aj} {r:List bT} {g:Option (Option Tmp × Bool)} {ns:Bool} {ty:TypeId}

theorem XL {A N B:aj} {f:FuncId} {args:Array Operand} {ats:Array TypeId} {vs:List Value} {R:World→Value→World→Prop} {dd:Option Tmp} [TF c.P f] (hH:H=A++(N++B)) (hm:m.aO ns r) (hd:Qw c.n dd=true) (hg:Qi F g=some true) (ha:Zy F args.toList=some vs)
  (hc:∀ w,Kp c.M c.w0 w→aG H w→Calls c.P f vs.toArray w (aQ fun v w'=>Kp (keys N) w w'∧R w v w'))
  (h:∀ w v w',Kp c.M c.w0 w→aG H w→Kp (keys N) w w'→R w v w'→∃ N',(keys N').Perm (keys N)∧(∀ p∈N',w'.heap[p.1]?=some p.2)∧JO c Q m.spent r (dN F dd v) (A++(N'++B))) :
  JO c Q m (⟨dd,.call ⟨.value (.func f),args,ats⟩,ty,g,.seq,ns⟩::r) F H:=by
 subst hH
 refine⟨⟨hd,.inr ⟨hg,fun a w st hs=>?_⟩⟩⟩
 unfold Oper.wp bT.oper
 rw[XC st.fr ha]
 refine Calls.mono (hc w st.kp st.hs) fun e w' he=>?_
 cases e with
 | panicked ch=>exact he.elim
 | outgrown=>exact he.elim
 | returned v =>
  obtain⟨hk,hR⟩:=he
  obtain⟨N',hkeys,hb,hj⟩:=h w v w' st.kp st.hs hk hR
  have hp:(A++(N++B)).Perm ((A++B)++N):=(QX A N B).symm
  have hnd:=(st.perm hp).hs.nd
  rw[Vj,List.nodup_append]at hnd
  obtain⟨st',hstep,hkk⟩:=ZV (N':=N') st hp (hkeys.nodup_iff.2 hnd.2.1) hb (fun k hk'=>.inl (hkeys.mem_iff.1 hk')) (fun k h1 h2=>hk.block k h1 h2) hk.size hk.os hk.tape hk.output
  refine⟨hstep,_,_,m.spent,(st'.perm (QX A N' B)).put v hd,fun k hk'=>hkk k ?_,Za hm,hj.h⟩
  obtain⟨q,hq,rfl⟩:=List.mem_map.1 hk'
  exact List.mem_map.2 ⟨q,(QX A N' B).mem_iff.2 hq,rfl⟩
end


def iG (r c:Nat) (g:List (List Int)):List (List Int):=(List.range c).map fun j=>(List.range r).map fun i=>gE g i j
theorem Y2 (r c:Nat) (g:List (List Int)):Rec c r (iG r c g):=⟨by simp[iG],fun x hx=>by
 unfold iG at hx
 obtain⟨j,_,rfl⟩:=List.mem_map.1 hx
 simp⟩
theorem Wg {r c i j:Nat} {g:List (List Int)} (hi:i<r) (hj:j<c):gE (iG r c g) j i=gE g i j:=by
 unfold iG gE
 simp[List.getD_eq_getElem?_getD,List.getElem?_map,List.getElem?_range,hi,hj]
theorem Q9q {r c i k:Nat} {t:Tn} {g:List (List Int)} (h:Rec r c g) (hi:i<c) (hk:k<c):iG r c (XW i k t g)=Q08 i k t (iG r c g) :=
 (Y2 r c _).ext ((Y2 r c g).rows hi hk) fun a b ha hb => by
  rw[Wg hb ha,Q0h h hi hk hb,Q0g (Y2 r c g) hi hk hb,Wg hb hi,Wg hb hk,Wg hb ha]
theorem Qda {r c i k:Nat} {g:List (List Int)} (h:Rec r c g) (hi:i<c) (hk:k<c):iG r c (iR i k g)=eY i k (iG r c g) :=
 (Y2 r c _).ext ((Y2 r c g).eY hi hk) fun a b ha hb => by
  rw[Wg hb ha,Q2c h hi hk hb,Q43 (Y2 r c g) hi hk,Wg hb (Q18 hi hk ha)]
theorem Qh2 {r c t:Nat} {g:List (List Int)} (h:Rec r c g) (ht:t<c):iG r c (negC t g)=negR t (iG r c g) :=
 (Y2 r c _).ext ((Y2 r c g).negR ht) fun a b ha hb => by
  rw[Wg hb ha,Qlv h ht hb,Qf6 (Y2 r c g) ht hb,Wg hb ha]
theorem Qd9 (n:Nat):iG n n (fP n)=fP n:=by
 have h:Rec n n (fP n):=⟨by simp[fP],fun x hx=>by
  unfold fP at hx
  obtain⟨i,_,rfl⟩:=List.mem_map.1 hx
  simp⟩
 refine(Y2 n n _).ext h fun a b ha hb=>?_
 rw[Wg hb ha,Q6b hb ha,Q6b ha hb]
 unfold fO
 by_cases e:a=b
 ·rw[if_pos e,if_pos e.symm]
 ·rw[if_neg e,if_neg (fun h=>e h.symm)]
theorem Qel {K r c:Nat} {g:List (List Int)} (h:gZ K g=true):gZ K (iG r c g)=true:=by
 unfold gZ iG
 refine List.all_eq_true.2 fun x hx=>?_
 obtain⟨j,_,rfl⟩:=List.mem_map.1 hx
 refine List.all_eq_true.2 fun y hy=>?_
 obtain⟨i,_,rfl⟩:=List.mem_map.1 hy
 exact decide_eq_true (QT h i j)

def dF (W:WV) (m n:Nat) (t s:Int):Array Value:=#[nv m,nv n,W.u,W.ui,W.d,W.v,W.vi,iv t,iv s]
def aK (b:Nat) (W:WV) (m n:Nat) (t s:Int) (T:WT):aj:=(b,.cells (dF W m n t s) 84)::(W.Nu++(tH T.u++(W.dM++(tH T.ui++(W.Nd++(tH T.d++(W.Nv++(tH T.v++(W.dV++(tH T.vi++[]))))))))))
structure dB (W:WV) (m n:Nat) (T:WT) (S:Sm):Prop where
 u:dP W.Nu W.u m m T.u S.u
 ui:dP W.dM W.ui m m T.ui (iG m m S.ui)
 d:dP W.Nd W.d m n T.d S.d
 v:dP W.Nv W.v n n T.v (iG n n S.v)
 vi:dP W.dV W.vi n n T.vi S.vi
structure dY (W W':WV):Prop where
 u:W'.u=W.u
 ui:W'.ui=W.ui
 d:W'.d=W.d
 v:W'.v=W.v
 vi:W'.vi=W.vi
theorem dY.refl (W:WV):dY W W:=⟨rfl,rfl,rfl,rfl,rfl⟩
theorem dY.trans {W W' W'':WV} (h:dY W W') (k:dY W' W''):dY W W'':=⟨k.u.trans h.u,k.ui.trans h.ui,k.d.trans h.d,k.v.trans h.v,k.vi.trans h.vi⟩
def jl (b:Nat) (W:WV) (m n:Nat) (t s:Int) (T:WT) (t' s':Int) (S':Sm) (w w':World):Prop :=
 Kp (keys (aK b W m n t s T)) w w'∧∃ W' T',(keys (aK b W' m n t' s' T')).Perm (keys (aK b W m n t s T))∧InW (aK b W' m n t' s' T') w'∧dB W' m n T' S'∧dY W W'
theorem jl.same {b:Nat} {W:WV} {m n:Nat} {t s:Int} {T:WT} {S:Sm} (h:dB W m n T S) {w w':World} (h1:Kp (keys (aK b W m n t s T)) w w') (h2:∀ p∈aK b W m n t s T,w'.heap[p.1]?=some p.2):jl b W m n t s T t s S w w' :=
 ⟨h1,W,T,.refl _,h2,h,dY.refl W⟩

theorem Q8b (K:Nat) (w:World) (v:Value) (N:aj) (ts:List TR) (cc i k:Nat) (f:Int) (hT:cO N v cc ts) (hs:aG (N++tH ts) w) (hi:i<ts.length) (hk:k<ts.length) (hik:i≠k) (hr:ts.length≤200) (hcc:cc≤200)
  (hK:K≤4000000000) (hf:f.natAbs<256 ^ K) (hb:∀ a b,(tM ts a b).natAbs<256 ^ K) :
  Calls Tryz.prog 159 #[tv ts i,tv ts k,Wv f] w (aQ fun _ w'=>Qp1 N ts v cc (fun a b=>if a=i∧b<cc then tM ts i b+f*tM ts k b else tM ts a b) w w'):=by
 have hM:=QK hs
 refine Qa [⟨5,2,[],[]⟩] (keys (N++tH ts)) hM (N++(tH ts++[])) Tryz.func159 rfl mixed (by kernel_rfl) Tryz.ntmps159 Tryz.results159 rfl (by simpa using hs) (fun p hp=>List.mem_map.2 ⟨p,by simpa using hp,rfl⟩) ?_
 simp only[toS,Qe,Qx,Qo,Qr,ay,Ql,Qy,aB]
 have hV:∀ a,tv ts a=tv ts a:=fun _=>rfl
 repeat' first|apply jS|apply jO|apply jN|apply jT|refine Q1 ?_|refine Q5y (h:=?_)|refine QM (h:=fun _=>?_)|apply jB
 rename_i b5
 refine Qn (ι:=Nat × List TR) ⟨fun z=>[(10,nv z.1),(9,nv cc),(8,tv ts k),(5,.pointer (some ⟨b5,0,none⟩)),(0,tv ts i)],fun z=>[(b5,.cells #[.bool (decide (f<0)),sv (aS f.natAbs)] 75)]++(N++(tH z.2++[])),
  fun z=>z.1≤cc∧cO N v cc z.2∧z.2.length=ts.length∧(∀ a,tv z.2 a=tv ts a)∧∀ a b,tM z.2 a b=if a=i∧b<z.1 then tM ts i b+f*tM ts k b else tM ts a b,fun z=>cc-z.1⟩ (0,ts)
  ⟨by omega,hT,rfl,hV,fun a b=>by rw[if_neg oq]⟩ aC (HSub.refl _) (fun z hz=>?_)
 obtain⟨c,t1⟩:=z
 obtain⟨hc,hT1,hl1,hV1,hM1⟩:=hz
 dsimp only at hc hT1 hl1 hV1 hM1 ⊢
 have hi1:i<t1.length:=by omega
 have hk1:k<t1.length:=by omega
 by_cases hlt:c<cc
 ·have e1:tM t1 i c=tM ts i c:=by rw[hM1,if_neg oq]
  have e2:tM t1 k c=tM ts k c:=by rw[hM1,if_neg oq]
  repeat' first|apply jS|apply jO|apply jN|apply jT|refine Q1 ?_|refine Q2 ?_|refine Q0 ?_|refine Q7 ?_|refine Zp (h:=?_)|refine YQ (h:=?_)|refine Q6 ?_|refine Ya (h:=?_)|(refine Qg (h1:=?_) (h2:=?_)<;>intro hc<;>try omega)|refine Qh fun _=>?_|refine Q6 ?_|apply jK|refine Q5 rfl ?_|apply jB
  rename_i b7
  have hmg:decide (aS (tM t1 k c).natAbs≠[])=decide (tM t1 k c≠0):=decide_eq_decide.2 (not_congr (bF.trans Int.natAbs_eq_zero))
  rw[hmg]
  by_cases hz:tM t1 k c=0
  ·rw[decide_eq_false (not_not_intro hz)]
   repeat' first|apply jO|apply jN|apply jT|refine Q1 ?_|refine Qd ?_|apply jK|refine Q4 rfl ?_|apply jW
   exact Q8 (c+1,t1) ⟨by dsimp only;omega,hT1,hl1,hV1,fun a b=>by
    dsimp only
    rw[hM1]
    by_cases h1:a=i∧b=c
    ·obtain⟨rfl,rfl⟩:=h1
     rw[if_neg oq,if_pos ⟨rfl,by omega⟩, ← e2,hz,Int.mul_zero,Int.add_zero]
    ·have e:(a=i∧b<c+1)↔(a=i∧b<c):=by omega
     simp only[e]⟩ aW aC (HSub.skip (HSub.refl _))
  ·rw[decide_eq_true hz]
   repeat' first|apply jD|refine Q1 ?_|refine Qm ?_|refine Zp (h:=?_)|refine YQ (h:=?_)|refine Q5 rfl ?_
   refine Q9 au rfl aF rfl (fun w _ _=>Qmk w _ _ f (tM t1 k c) K (QC hf) (QC (by rw[e2];exact hb k c)) oq) fun w v w' _ _ _ hR=>?_
   subst hR
   skip
   refine Q9 au rfl aF rfl (fun w _ _=>Qiv w _ _ (tM t1 i c) (f*tM t1 k c) (K+K) (QC (by rw[e1];exact bd2 (hb i c))) (QC (W9 hf (by rw[e2];exact hb k c))) oq) fun w v w' _ _ _ hR=>?_
   rw[e1,e2]at hR
   subst hR
   repeat' first|refine Zp (h:=?_)|fail
   refine Q3l (A:=[_,_]) (B:=[]) (i:=i) (j:=c) (V:=tv ts) (u:=tM ts i c+f*tM ts k c) hV1 hT1 rfl rfl au rfl rfl hi1 hlt (fun t2 hT2 hl2 hV2 hM2=>?_)
   repeat' first|apply jO|apply jN|apply jT|refine Q1 ?_|refine Qd ?_|apply jW
   refine Q8 (c+1,t2) ⟨by dsimp only;omega,hT2,by dsimp only;omega,hV2,fun a b=>?_⟩ aW aC (HSub.skip (HSub.refl _))
   dsimp only
   rw[hM2,hM1]
   by_cases h1:a=i∧b=c
   ·obtain⟨rfl,rfl⟩:=h1
    rw[if_pos ⟨rfl,rfl⟩,if_pos ⟨rfl,by omega⟩]
   ·rw[if_neg h1]
    have e:(a=i∧b<c+1)↔(a=i∧b<c):=by omega
    simp only[e]
 ·obtain rfl:c=cc:=by omega
  repeat' first|apply jS|apply jO|apply jN|apply jT|(refine Qg (h1:=?_) (h2:=?_)<;>intro hc<;>try omega)|apply jU|apply jE|refine Q4 rfl ?_|apply Qc
  exact Ze (fun a w' st=>⟨st.kp,t1,by rw[Yu,Yu,Qdc hT hT1 hl1 hV1],fun p hp=>st.hs.blk p (by simpa using Or.inr hp),hT1,hl1,hV1,hM1⟩)


theorem dP.addR {N:aj} {v:Value} {r c i k:Nat} {ts ts':List TR} {g:List (List Int)} {f:Int} (h:dP N v r c ts g) (hi:i<r) (hk:k<r) (hik:i≠k) (hT:cO N v c ts') (hl:ts'.length=ts.length)
  (e:∀ a b,tM ts' a b=if a=i∧b<c then tM ts i b+f*tM ts k b else tM ts a b):dP N v r c ts' (Q08 i k (aT f) g) :=
 h.rows hi hk hT hl fun a b=>by
  rw[e]
  unfold aT Tn.p Tn.q
  dsimp only
  by_cases h1:a=k∧b<c
  ·obtain⟨rfl,h2⟩:=h1
   rw[if_neg oq,if_pos ⟨rfl,h2⟩,Int.zero_mul,Int.one_mul,Int.zero_add]
  ·rw[if_neg h1]
   by_cases h2:a=i∧b<c
   ·rw[if_pos h2,if_pos h2,Int.one_mul]
   ·rw[if_neg h2,if_neg h2]
theorem dP.addF {N:aj} {v:Value} {r c i k:Nat} {ts ts':List TR} {g:List (List Int)} {f:Int} (h:dP N v r c ts g) (hi:i<r) (hk:k<r) (hik:i≠k) (hT:cO N v c ts') (hl:ts'.length=ts.length)
  (e:∀ a b,tM ts' a b=if a=k∧b<c then tM ts k b+(-f)*tM ts i b else tM ts a b):dP N v r c ts' (Q08 i k (aT f).flip g) :=
 h.rows hi hk hT hl fun a b=>by
  rw[e]
  unfold aT Tn.flip Tn.p Tn.q
  dsimp only
  by_cases h1:a=k∧b<c
  ·rw[if_pos h1,if_pos h1,Int.one_mul,Int.add_comm]
  ·rw[if_neg h1,if_neg h1]
   by_cases h2:a=i∧b<c
   ·obtain⟨rfl,h2⟩:=h2
    rw[if_pos ⟨rfl,h2⟩,Int.neg_zero,Int.zero_mul,Int.one_mul,Int.add_zero]
   ·rw[if_neg h2]
theorem WW {K r c:Nat} {N:aj} {v:Value} {ts:List TR} {g:List (List Int)} (h:dP N v r c ts g) (hb:gZ K g=true) (a b:Nat):(tM ts a b).natAbs<256 ^ K:=by rw[h.at];exact QT hb a b
theorem Q2x {b m n:Nat} {t s t' s':Int} {W:WV} {T T':WT} {S S':Sm} (h:dB W m n T S) (h':dB W m n T' S') (hV:iF T T'):(keys (aK b W m n t' s' T')).Perm (keys (aK b W m n t s T)):=by
 have e:keys (aK b W m n t' s' T')=keys (aK b W m n t s T):=by
  unfold aK
  simp only[keys,List.map_cons,Vj]
  have e1:=h.u.keys h'.u hV.u
  have e2:=h.ui.keys h'.ui hV.ui
  have e3:=h.d.keys h'.d hV.d
  have e4:=h.v.keys h'.v hV.v
  have e5:=h.vi.keys h'.vi hV.vi
  unfold keys at e1 e2 e3 e4 e5
  rw[e1,e2,e3,e4,e5]
 rw[e]

theorem Q8a (K:Nat) (w:World) (b:Nat) (W:WV) (m n:Nat) (t s:Int) (T:WT) (S:Sm) (i k:Nat) (f:Int) (hW:dB W m n T S) (hD:Dm m n S) (hs:aG (aK b W m n t s T) w) (hi:i<m) (hk:k<m) (hik:i≠k) (hm:m≤200) (hn:n≤200)
  (hK:K≤4000000000) (hf:f.natAbs<256 ^ K) (hb:Ok K S) :
  Calls Tryz.prog 110 #[.pointer (some ⟨b,0,none⟩),nv i,nv k,Wv f] w (aQ fun _ w'=>jl b W m n t s T t s (S.rows i k (aT f)) w w'):=by
 have hM:=QK hs
 have hlu:=hW.u.len
 have hlui:=hW.ui.len
 have hld:=hW.d.len
 have hTu:=hW.u.T
 have hTui:=hW.ui.T
 have hTd:=hW.d.T
 have hVu:∀ a,tv T.u a=tv T.u a:=fun _=>rfl
 have hVui:∀ a,tv T.ui a=tv T.ui a:=fun _=>rfl
 have hVd:∀ a,tv T.d a=tv T.d a:=fun _=>rfl
 have hiu:i<T.u.length:=by omega
 have hku:k<T.u.length:=by omega
 have hiui:i<T.ui.length:=by omega
 have hkui:k<T.ui.length:=by omega
 have hid:i<T.d.length:=by omega
 have hkd:k<T.d.length:=by omega
 refine YZ [1,2,3] [] (keys (aK b W m n t s T)) hM (aK b W m n t s T) Tryz.func110 rfl mixed (by kernel_rfl) Tryz.ntmps110 Tryz.results110 rfl hs (fun p hp=>List.mem_map.2 ⟨p,hp,rfl⟩) ?_
 simp only[toR,inR,cond_true,cond_false,Nat.reduceBEq,toS,Qe,Qx,Qo,Qr,ay,Ql,Qy,aB]
 unfold aK dF
 repeat' first|apply jS|apply jO|apply jN|refine QM (h:=fun _=>?_)|apply jT
 rename_i b7
 refine WG ((b7,.cells #[.bool (decide (f<0)),sv (aS f.natAbs)] 75)::(b,.cells (dF W m n t s) 84)::(W.Nu++(tH T.u++(W.dM++(tH T.ui++(W.Nd++(tH T.d++(W.Nv++(tH T.v++(W.dV++(tH T.vi++[]))))))))))) (HSub.refl _) [(3,5,6),(3,6,15),(10,12,13),(10,13,15)] (fun i op=>Qo [] i op) 1 [0,1,2,3,4,5,6,7,8,9,10,11,12,13,14,15] mixed (by kernel_rfl) (by kernel_rfl) ?_
 repeat' first|refine Q1 ?_|refine Q2 ?_|refine Q7 ?_|refine Qm ?_|refine Zv (h:=?_)|refine YJ (h:=?_)|refine Q3 ?_|fail
 refine Q0z (A:=(b7,.cells #[.bool (decide (f<0)),sv (aS f.natAbs)] 75)::(b,.cells (dF W m n t s) 84)::(W.Nu++(tH T.u++(W.dM++tH T.ui)))) (N:=W.Nd) (ts:=T.d) (B:=W.Nv++(tH T.v++(W.dV++(tH T.vi++[])))) (by simp only[Vg,Vr,Vb];rfl) au rfl aF rfl (fun w hs=>Q8b K w W.d W.Nd T.d n i k f hW.d.T hs hid hkd hik oq hn hK hf (WW hW.d hb.d)) (fun _ d' hTd' hld' hVd' hMd'=>?_)
 simp only[Vg,Vr,Vb]
 repeat' first|apply jS|apply jN|apply jT
 refine WG ((b7,.cells #[.bool (decide (f<0)),sv (aS f.natAbs)] 75)::(b,.cells (dF W m n t s) 84)::(W.Nu++(tH T.u++(W.dM++(tH T.ui++(W.Nd++(tH d'++(W.Nv++(tH T.v++(W.dV++(tH T.vi++[]))))))))))) (HSub.refl _) [(3,5,6),(3,6,15),(10,12,13),(10,13,15)] (fun i op=>Qo [] i op) 1 [0,1,2,3,4,5,6,7,8,9,10,11,12,13,14,15] mixed (by kernel_rfl) (by kernel_rfl) ?_
 unfold dF
 repeat' first|refine Q1 ?_|refine Q2 ?_|refine Q7 ?_|refine Qm ?_|refine Zv (h:=?_)|refine YJ (h:=?_)|refine Q3 ?_|fail
 refine Q0z (A:=[(b7,.cells #[.bool (decide (f<0)),sv (aS f.natAbs)] 75),(b,.cells (dF W m n t s) 84)]) (N:=W.Nu) (ts:=T.u) (B:=W.dM++(tH T.ui++(W.Nd++(tH d'++(W.Nv++(tH T.v++(W.dV++(tH T.vi++[])))))))) (by simp only[Vg,Vr,Vb];rfl) au rfl aF rfl (fun w hs=>Q8b K w W.u W.Nu T.u m i k f hW.u.T hs hiu hku hik oq hm hK hf (WW hW.u hb.u)) (fun _ u' hTu' hlu' hVu' hMu'=>?_)
 simp only[Vg,Vr,Vb]
 repeat' first|apply jN|apply jT
 refine WG ((b7,.cells #[.bool (decide (f<0)),sv (aS f.natAbs)] 75)::(b,.cells (dF W m n t s) 84)::(W.Nu++(tH u'++(W.dM++(tH T.ui++(W.Nd++(tH d'++(W.Nv++(tH T.v++(W.dV++(tH T.vi++[]))))))))))) (HSub.refl _) [(3,5,6),(3,6,16),(10,12,13),(10,13,16),(14,15,16)] (fun i op=>Qo [] i op) 1 [0,1,2,3,4,5,6,7,8,9,10,11,12,13,14,15,16] mixed (by kernel_rfl) (by kernel_rfl) ?_
 unfold dF
 repeat' first|refine Q1 ?_|refine Q2 ?_|refine Q7 ?_|refine Qm ?_|refine Zv (h:=?_)|refine YJ (h:=?_)|refine Q3 ?_|fail
 refine Q9 au rfl aF rfl (fun w _ _=>Q9d w _ f K (QC hf) oq) fun w v w' _ _ _ hR=>?_
 subst hR
 skip
 refine Q0z (A:=(b7,.cells #[.bool (decide (f<0)),sv (aS f.natAbs)] 75)::(b,.cells (dF W m n t s) 84)::(W.Nu++tH u')) (N:=W.dM) (ts:=T.ui) (B:=W.Nd++(tH d'++(W.Nv++(tH T.v++(W.dV++(tH T.vi++[])))))) (by simp only[Vg,Vr,Vb];rfl) au rfl aF rfl (fun w hs=>Q8b K w W.ui W.dM T.ui m k i (-f) hW.ui.T hs hkui hiui (fun e=>hik e.symm) oq hm hK (by rw[Int.natAbs_neg];exact hf) (WW hW.ui (Qel hb.ui))) (fun _ w' hTw' hlw' hVw' hMw'=>?_)
 simp only[Vg,Vr,Vb]
 repeat' first|apply jN
 have hW':dB W m n ⟨u',w',d',T.v,T.vi⟩ (S.rows i k (aT f)):=⟨hW.u.addR hi hk hik hTu' hlu' hMu',by
  show dP W.dM W.ui m m w' (iG m m (XW i k (aT f).flip S.ui))
  rw[Q9q hD.ui hi hk]
  exact hW.ui.addF hi hk hik hTw' hlw' hMw',hW.d.addR hi hk hik hTd' hld' hMd',hW.v,hW.vi⟩
 have hV':iF T ⟨u',w',d',T.v,T.vi⟩:=⟨hVu',hVw',hVd',fun _=>rfl,fun _=>rfl⟩
 exact Ze (fun a w'' st=>⟨st.kp,W,_,Q2x hW hW' hV',fun p hp=>st.hs.blk p (by unfold aK at hp;exact Vc _ hp),hW',dY.refl W⟩)

theorem dP.addC {N:aj} {v:Value} {r c i k:Nat} {ts ts':List TR} {g:List (List Int)} {f:Int} (h:dP N v r c ts g) (hi:i<c) (hk:k<c) (hik:i≠k) (hT:cO N v c ts') (hl:ts'.length=ts.length)
  (e:∀ a b,tM ts' a b=if a<ts.length∧b=i then tM ts a i+f*tM ts a k else tM ts a b):dP N v r c ts' (XW i k (aT f) g) :=
 h.cols hi hk hT hl fun a b=>by
  rw[e]
  unfold aT Tn.p Tn.q
  dsimp only
  by_cases h1:a<ts.length∧b=k
  ·obtain⟨h2,rfl⟩:=h1
   rw[if_neg oq,if_pos ⟨h2,rfl⟩,Int.zero_mul,Int.one_mul,Int.zero_add]
  ·rw[if_neg h1]
   by_cases h2:a<ts.length∧b=i
   ·rw[if_pos h2,if_pos h2,Int.one_mul]
   ·rw[if_neg h2,if_neg h2]

theorem Qfz (K:Nat) (w:World) (b:Nat) (W:WV) (m n:Nat) (t s:Int) (T:WT) (S:Sm) (i k:Nat) (f:Int) (hW:dB W m n T S) (hD:Dm m n S) (hs:aG (aK b W m n t s T) w) (hi:i<n) (hk:k<n) (hik:i≠k) (hm:m≤200) (hn:n≤200)
  (hK:K≤4000000000) (hf:f.natAbs<256 ^ K) (hb:Ok K S) :
  Calls Tryz.prog 112 #[.pointer (some ⟨b,0,none⟩),nv i,nv k,Wv f] w (aQ fun _ w'=>jl b W m n t s T t s (S.cols i k (aT f)) w w'):=by
 have hM:=QK hs
 have hlv:=hW.v.len
 have hlvi:=hW.vi.len
 have hld:=hW.d.len
 have hTv:=hW.v.T
 have hTvi:=hW.vi.T
 have hTd:=hW.d.T
 have hVv:∀ a,tv T.v a=tv T.v a:=fun _=>rfl
 have hVvi:∀ a,tv T.vi a=tv T.vi a:=fun _=>rfl
 have hVd:∀ a,tv T.d a=tv T.d a:=fun _=>rfl
 have hiv:i<T.v.length:=by omega
 have hkv:k<T.v.length:=by omega
 have hivi:i<T.vi.length:=by omega
 have hkvi:k<T.vi.length:=by omega
 have hbd:=WW hW.d hb.d
 refine YZ [6,7] [⟨4,2,[],[]⟩] (keys (aK b W m n t s T)) hM (aK b W m n t s T) Tryz.func112 rfl mixed (by kernel_rfl) Tryz.ntmps112 Tryz.results112 rfl hs (fun p hp=>List.mem_map.2 ⟨p,hp,rfl⟩) ?_
 simp only[toR,inR,cond_true,cond_false,Nat.reduceBEq,toS,Qe,Qx,Qo,Qr,ay,Ql,Qy,aB]
 unfold aK dF
 repeat' first|apply jS|apply jO|apply jN|apply jT|refine Q1 ?_|refine Q2 ?_|refine Q7 ?_|refine Qjk (h:=?_)|refine Q3 ?_|refine QM (h:=fun _=>?_)|apply jB
 rename_i b7
 refine Qn (ι:=Nat × List TR) ⟨fun z=>[(15,nv z.1),(14,nv m),(13,W.d),(7,.pointer (some ⟨b7,0,none⟩)),(0,.pointer (some ⟨b,0,none⟩)),(1,nv i),(2,nv k)],fun z=>((b7,.cells #[.bool (decide (f<0)),sv (aS f.natAbs)] 75)::(b,.cells (dF W m n t s) 84)::(W.Nu++(tH T.u++(W.dM++(tH T.ui++(W.Nd++(tH z.2++(W.Nv++(tH T.v++(W.dV++(tH T.vi++[]))))))))))),
  fun z=>z.1≤m∧cO W.Nd W.d n z.2∧z.2.length=T.d.length∧(∀ a,tv z.2 a=tv T.d a)∧∀ a x,tM z.2 a x=if a<z.1∧x=i then tM T.d a i+f*tM T.d a k else tM T.d a x,fun z=>m-z.1⟩ (0,T.d)
  ⟨by omega,hTd,rfl,hVd,fun a x=>by rw[if_neg oq]⟩ aC (HSub.refl _) (fun z hz=>?_)
 clear hTd hVd
 obtain⟨c,d1⟩:=z
 obtain⟨hcm,hTd,hld1,hVd,iO⟩:=hz
 dsimp only at hcm hTd hld1 hVd iO ⊢
 unfold dF
 by_cases hlt:c<m
 ·have hc1:c<d1.length:=by omega
  have e1:tM d1 c i=tM T.d c i:=by rw[iO,if_neg oq]
  have e2:tM d1 c k=tM T.d c k:=by rw[iO,if_neg oq]
  repeat' first|apply jS|apply jO|apply jD|apply jN|apply jT|refine Q1 ?_|refine Q0 ?_|refine Qm ?_|refine Zp (h:=?_)|refine Zv (h:=?_)|refine YQ (h:=?_)|refine YJ (h:=?_)|(refine Qg (h1:=?_) (h2:=?_)<;>intro hc<;>try omega)|apply jK|refine Q5 rfl ?_|apply jB
  refine Q9 au rfl aF rfl (fun w _ _=>Qmk w _ _ f (tM d1 c k) K (QC hf) (QC (by rw[e2];exact hbd c k)) oq) fun w v w' _ _ _ hR=>?_
  subst hR
  skip
  refine Q9 au rfl aF rfl (fun w _ _=>Qiv w _ _ (tM d1 c i) (f*tM d1 c k) (K+K) (QC (by rw[e1];exact bd2 (hbd c i))) (QC (W9 hf (by rw[e2];exact hbd c k))) oq) fun w v w' _ _ _ hR=>?_
  rw[e1,e2]at hR
  subst hR
  repeat' first|refine Zp (h:=?_)|fail
  refine Q3l (A:=(b7,.cells #[.bool (decide (f<0)),sv (aS f.natAbs)] 75)::(b,.cells (dF W m n t s) 84)::(W.Nu++(tH T.u++(W.dM++tH T.ui)))) (N:=W.Nd) (B:=W.Nv++(tH T.v++(W.dV++(tH T.vi++[])))) (i:=c) (j:=i) (V:=tv T.d) (u:=tM T.d c i+f*tM T.d c k) hVd hTd (by simp only[Vg,Vr,Vb];rfl) rfl au rfl rfl hc1 hi (fun d2 hT2 hl2 hV2 hM2=>?_)
  simp only[Vg,Vr,Vb]
  repeat' first|apply jO|apply jN|apply jT|refine Q1 ?_|refine Qd ?_|apply jW
  refine Q8 (c+1,d2) ⟨by dsimp only;omega,hT2,by dsimp only;omega,hV2,fun a x=>?_⟩ aW aC (HSub.refl _)
  dsimp only
  rw[hM2,iO]
  by_cases h1:a=c∧x=i
  ·obtain⟨rfl,rfl⟩:=h1
   rw[if_pos ⟨rfl,rfl⟩,if_pos ⟨by omega,rfl⟩]
  ·rw[if_neg h1]
   have e:(a<c+1∧x=i)↔(a<c∧x=i):=by omega
   simp only[e]
 ·obtain rfl:c=m:=by omega
  clear hlt
  repeat' first|apply jS|apply jO|apply jN|apply jT|(refine Qg (h1:=?_) (h2:=?_)<;>intro hc<;>try omega)|apply jU|apply jE|refine Q4 rfl ?_|apply Qc
  refine WG ((b7,.cells #[.bool (decide (f<0)),sv (aS f.natAbs)] 75)::(b,.cells (dF W c n t s) 84)::(W.Nu++(tH T.u++(W.dM++(tH T.ui++(W.Nd++(tH d1++(W.Nv++(tH T.v++(W.dV++(tH T.vi++[]))))))))))) (HSub.refl _) [(3,5,6),(3,6,15),(10,12,13),(10,13,15)] (fun i op=>Qo [] i op) 1 [0,1,2,3,4,5,6,7,8,9,10,11,12,13,14,15] mixed (by kernel_rfl) (by kernel_rfl) ?_
  unfold dF
  repeat' first|refine Q1 ?_|refine Q2 ?_|refine Q7 ?_|refine Qm ?_|refine Zv (h:=?_)|refine YJ (h:=?_)|refine Q3 ?_|fail
  refine Q0z (A:=(b7,.cells #[.bool (decide (f<0)),sv (aS f.natAbs)] 75)::(b,.cells (dF W c n t s) 84)::(W.Nu++(tH T.u++(W.dM++(tH T.ui++(W.Nd++tH d1)))))) (N:=W.Nv) (ts:=T.v) (B:=W.dV++(tH T.vi++[])) (by simp only[Vg,Vr,Vb];rfl) au rfl aF rfl (fun w hs=>Q8b K w W.v W.Nv T.v n i k f hW.v.T hs hiv hkv hik oq hn hK hf (WW hW.v (Qel hb.v))) (fun _ v' hTv' hlv' hVv' hMv'=>?_)
  simp only[Vg,Vr,Vb]
  repeat' first|apply jN|apply jT
  refine WG ((b7,.cells #[.bool (decide (f<0)),sv (aS f.natAbs)] 75)::(b,.cells (dF W c n t s) 84)::(W.Nu++(tH T.u++(W.dM++(tH T.ui++(W.Nd++(tH d1++(W.Nv++(tH v'++(W.dV++(tH T.vi++[]))))))))))) (HSub.refl _) [(3,5,6),(3,6,16),(10,12,13),(10,13,16),(14,15,16)] (fun i op=>Qo [] i op) 1 [0,1,2,3,4,5,6,7,8,9,10,11,12,13,14,15,16] mixed (by kernel_rfl) (by kernel_rfl) ?_
  unfold dF
  repeat' first|refine Q1 ?_|refine Q2 ?_|refine Q7 ?_|refine Qm ?_|refine Zv (h:=?_)|refine YJ (h:=?_)|refine Q3 ?_|fail
  refine Q9 au rfl aF rfl (fun w _ _=>Q9d w _ f K (QC hf) oq) fun w v w' _ _ _ hR=>?_
  subst hR
  skip
  refine Q0z (A:=(b7,.cells #[.bool (decide (f<0)),sv (aS f.natAbs)] 75)::(b,.cells (dF W c n t s) 84)::(W.Nu++(tH T.u++(W.dM++(tH T.ui++(W.Nd++(tH d1++(W.Nv++tH v')))))))) (N:=W.dV) (ts:=T.vi) (B:=[]) (by simp only[Vg,Vr,Vb];rfl) au rfl aF rfl (fun w hs=>Q8b K w W.vi W.dV T.vi n k i (-f) hW.vi.T hs hkvi hivi (fun e=>hik e.symm) oq hn hK (by rw[Int.natAbs_neg];exact hf) (WW hW.vi hb.vi)) (fun _ w' hTw' hlw' hVw' hMw'=>?_)
  simp only[Vg,Vr,Vb]
  repeat' first|apply jN
  have hW':dB W c n ⟨T.u,T.ui,d1,v',w'⟩ (S.cols i k (aT f)):=⟨hW.u,hW.ui,hW.d.addC hi hk hik hTd hld1 (fun a x=>by
   rw[iO,hld]),by
   show dP W.Nv W.v n n v' (iG n n (XW i k (aT f) S.v))
   rw[Q9q hD.v hi hk]
   exact hW.v.addR hi hk hik hTv' hlv' hMv',hW.vi.addF hi hk hik hTw' hlw' hMw'⟩
  have hV':iF T ⟨T.u,T.ui,d1,v',w'⟩:=⟨fun _=>rfl,fun _=>rfl,hVd,hVv',hVw'⟩
  exact Ze (fun a w'' st=>⟨st.kp,W,_,Q2x hW hW' hV',fun p hp=>st.hs.blk p (by unfold aK at hp;exact Vc _ hp),hW',dY.refl W⟩)


theorem Qna (ts:List TR) (i:Nat):(ts.getD i dT).2.2=(tL ts).getD i []:=by
 unfold tL
 simp only[List.getD,List.getElem?_map]
 cases h:ts[i]?<;>simp[dT]
theorem Qpc (ts:List TR) (p q:Nat):tL (jg ts p q)=eY p q (tL ts):=by
 have e:∀ l:List TR,tL l=l.map (·.2.2):=fun _=>rfl
 unfold jg eY
 rw[← Qna, ← Qna,e,e,List.map_set,List.map_set]
theorem dP.swap {N N':aj} {v:Value} {r c i t:Nat} {ts:List TR} {g:List (List Int)} (h:dP N v r c ts g) (hi:i<r) (ht:t<r) (hO:aH 26 1 N' v ts.length (((ts.map (·.2.1)).set i (tv ts t)).set t (tv ts i))):dP N' v r c (jg ts i t) (eY i t g):=by
 have hl:=h.len
 refine⟨⟨by rw[Qdf,Qnd oq oq];exact hO,fun q hq=>h.T.rows q ((XI oq oq).mem_iff.1 hq)⟩,by rw[Qdf,hl],?_⟩
 rw[Qpc,h.eq]
theorem dP.swapK {N N':aj} {v:Value} {r c i t:Nat} {ts:List TR} {g:List (List Int)} (h:dP N v r c ts g) (hi:i<r) (ht:t<r) (h':dP N' v r c (jg ts i t) (eY i t g)):(Go.Proofs.YtbofgpenopcfaaaGreatDoor.keys (N'++tH (jg ts i t))).Perm (Go.Proofs.YtbofgpenopcfaaaGreatDoor.keys (N++tH ts)):=by
 have hl:=h.len
 have e1:Go.Proofs.YtbofgpenopcfaaaGreatDoor.keys N'=Go.Proofs.YtbofgpenopcfaaaGreatDoor.keys N:=h'.T.keys_out h.T (by rw[h'.len,hl])
 have e2:=Qez (Q1l (XI (ts:=ts) (p:=i) (q:=t) oq oq))
 rw[Yu,Yu,e1]
 exact e2.append_left _
theorem Q42 {b m n:Nat} {t s t' s':Int} {W W':WV} {T T':WT} (h1:(keys (W'.Nu++tH T'.u)).Perm (keys (W.Nu++tH T.u))) (h2:(keys (W'.dM++tH T'.ui)).Perm (keys (W.dM++tH T.ui))) (h3:(keys (W'.Nd++tH T'.d)).Perm (keys (W.Nd++tH T.d)))
  (h4:(keys (W'.Nv++tH T'.v)).Perm (keys (W.Nv++tH T.v))) (h5:(keys (W'.dV++tH T'.vi)).Perm (keys (W.dV++tH T.vi))):(keys (aK b W' m n t' s' T')).Perm (keys (aK b W m n t s T)):=by
 unfold aK
 rw[List.perm_iff_count]at *
 intro x
 have a1:=h1 x
 have a2:=h2 x
 have a3:=h3 x
 have a4:=h4 x
 have a5:=h5 x
 simp only[keys,List.map_cons,Vj,List.count_cons,List.count_append,List.map_nil,List.count_nil]at *
 omega
def exP1 (i t:Nat) (S:Sm):Nat→Sm
 | 0=>S
 | 1=>⟨S.u,S.ui,eY i t S.d,S.v,S.vi⟩
 | 2=>⟨eY i t S.u,S.ui,eY i t S.d,S.v,S.vi⟩
 | _=>⟨eY i t S.u,iR i t S.ui,eY i t S.d,S.v,S.vi⟩
def exP2 (i t:Nat) (S:Sm):Nat→Sm
 | 0=>S
 | 1=>⟨S.u,S.ui,S.d,iR i t S.v,S.vi⟩
 | _=>⟨S.u,S.ui,S.d,iR i t S.v,eY i t S.vi⟩
theorem dP.exC {N:aj} {v:Value} {r c i k:Nat} {ts ts':List TR} {g:List (List Int)} (h:dP N v r c ts g) (hi:i<c) (hk:k<c) (hT:cO N v c ts') (hl:ts'.length=ts.length)
  (e:∀ a b,tM ts' a b=if a<ts.length then tM ts a (jr i k b) else tM ts a b):dP N v r c ts' (iR i k g) :=
 h.of hT hl h.rc.iR fun a b ha hb=>by
  rw[e,Q2c h.rc hi hk ha,if_pos (by rw[h.len];exact ha),h.at]
theorem Y5 {A B:aj} (h:B.Perm A):HSub A B:=⟨[],by rw[Vh];exact h⟩

theorem Qoj (w:World) (b:Nat) (W:WV) (m n:Nat) (t:Nat) (s:Int) (T:WT) (S:Sm) (i k:Nat) (hW:dB W m n T S) (hD:Dm m n S) (hs:aG (aK b W m n t s T) w) (hi:i<m) (hk:k<n) (bD:t<m) (htn:t<n) (hm:m≤200) (hn:n≤200) :
  Calls Tryz.prog 107 #[.pointer (some ⟨b,0,none⟩),nv i,nv k] w (aQ fun _ w'=>jl b W m n t s T t s (S.ex i k t) w w'):=by
 have hM:=QK hs
 refine Qa [⟨1,0,[0,1,2,3,4,5,6,7,8,9,10,11,14,12,13],[]⟩,⟨4,4,[],[]⟩,⟨9,4,[],[]⟩,⟨11,0,[0,1,2,3,4,5,6,7,10,8,9],[]⟩,⟨14,4,[],[]⟩] (keys (aK b W m n t s T)) hM (aK b W m n t s T) Tryz.func107 rfl mixed (by kernel_rfl) Tryz.ntmps107 Tryz.results107 rfl hs (fun p hp=>List.mem_map.2 ⟨p,hp,rfl⟩) ?_
 simp only[toS,Qe,Qx,Qo,Qr,ay,Ql,Qy,aB]
 obtain⟨Ad,cd,hfd⟩:=hW.d.T.form
 obtain⟨Au,cu,hfu⟩:=hW.u.T.form
 obtain⟨Ai,ci,hfi⟩:=hW.ui.T.form
 obtain⟨Av,cv,hfv⟩:=hW.v.T.form
 obtain⟨Aj,cj,hfj⟩:=hW.vi.T.form
 unfold aK dF
 repeat' first|apply jS|apply jO|apply jD|apply jN|refine Q1 ?_|refine Q2 ?_|refine Q0 ?_|refine Q7 ?_|refine Q3 ?_|apply jT
 refine Zr (l:=[(0,W.d),(1,W.u),(2,W.ui)]) (cs:=#[W.d,W.u,W.ui]) rfl rfl rfl rfl dq dq (by rw[hfd,hfu,hfi];kernel_rfl) (fun b29=>?_)
 repeat' first|apply jN|apply jT|refine ZC (h:=?_)|apply jB
 refine Qn (ι:=Nat × WV × WT) ⟨fun z=>[(31,nv z.1),(30,nv 3),(29,.slice (some ⟨b29,0,none⟩) 3 3),(6,nv t),(0,.pointer (some ⟨b,0,none⟩)),(1,nv i),(2,nv k)],fun z=>(b29,.cells #[z.2.1.d,z.2.1.u,z.2.1.ui] 82)::aK b z.2.1 m n t s z.2.2,
  fun z=>z.1≤3∧dB z.2.1 m n z.2.2 (exP1 i t S z.1)∧dY W z.2.1∧(keys (aK b z.2.1 m n t s z.2.2)).Perm (keys (aK b W m n t s T)),fun z=>3-z.1⟩ (0,W,T) ⟨by omega,hW,dY.refl W,.refl _⟩ aC (HSub.refl _) (fun z hz=>?_)
 obtain⟨q,W1,T1⟩:=z
 obtain⟨hq,hW1,hS1,hk1⟩:=hz
 dsimp only at hq hW1 hS1 hk1 ⊢
 unfold aK dF
 by_cases hlt:q<3
 ·have h3:q=0∨q=1∨q=2:=by omega
  rcases h3 with rfl|rfl|rfl
  ·have hl:=hW1.d.len
   have hT:=hW1.d.T
   have hV:∀ a,tv T1.d a=tv T1.d a:=fun _=>rfl
   have hi1:i<T1.d.length:=by omega
   have ht1:t<T1.d.length:=by omega
   have bG:=hT.outer
   repeat' first|apply jS|apply jO|apply jN|apply jT|(refine Qg (h1:=?_) (h2:=?_)<;>intro hc<;>try omega)|apply jK|refine Q5 rfl ?_|apply jB
   refine Zh (o:=0) (j:=0) rfl rfl rfl (fun _=>rfl) rfl oq ?_
   repeat' first|apply jD|apply jN|refine Q1 ?_|refine Q0 ?_|refine Q7 ?_|refine Zv (h:=?_)|refine YJ (h:=?_)|apply jT
   refine Q1o (A:=(b29,.cells #[W1.d,W1.u,W1.ui] 82)::(b,.cells (dF W1 m n t s) 84)::(W1.Nu++(tH T1.u++(W1.dM++(tH T1.ui))))) (N:=W1.Nd) (B:=tH T1.d++(W1.Nv++(tH T1.v++(W1.dV++(tH T1.vi++[]))))) hT.outer (by simp only[Vg,Vr,Vb];rfl) rfl au rfl rfl (Yd hT oq).1 (Yd hT oq).2 oq (fun N4 hO4=>?_)
   simp only[Vg,Vr,Vb]
   repeat' first|refine Zv (h:=?_)|fail
   refine Q1o (A:=(b29,.cells #[W1.d,W1.u,W1.ui] 82)::(b,.cells (dF W1 m n t s) 84)::(W1.Nu++(tH T1.u++(W1.dM++(tH T1.ui))))) (N:=N4) (B:=tH T1.d++(W1.Nv++(tH T1.v++(W1.dV++(tH T1.vi++[]))))) hO4 (by simp only[Vg,Vr,Vb]) rfl au rfl rfl (Yd hT oq).1 (Yd hT oq).2 oq (fun N5 iy=>?_)
   simp only[Vg,Vr,Vb]
   have hsw:dP N5 W1.d m n (jg T1.d i t) (eY i t (S.d)):=hW1.d.swap hi bD iy
   have hkp:=hW1.d.swapK hi bD hsw
   have htp:=Q1l (XI (ts:=T1.d) (p:=i) (q:=t) hi1 ht1)
   have hkk:(keys (aK b { W1 with Nd:=N5 } m n t s { T1 with d:=jg T1.d i t })).Perm (keys (aK b W1 m n t s T1)):=Q42 (.refl _) (.refl _) hkp (.refl _) (.refl _)
   repeat' first|apply jO|apply jN|apply jT|refine Q1 ?_|refine Qd ?_|apply jW
   refine Q8 (1,{ W1 with Nd:=N5 },{ T1 with d:=jg T1.d i t }) ⟨by dsimp only;omega,⟨hW1.u,hW1.ui,hsw,hW1.v,hW1.vi⟩,⟨hS1.u,hS1.ui,hS1.d,hS1.v,hS1.vi⟩,hkk.trans hk1⟩ aW aC (HSub.at 0 rfl (HSub.at 0 rfl (Y5 ((((((htp.symm.append_right _).append_left _).append_left _).append_left _).append_left _).append_left _))))
  ·have hl:=hW1.u.len
   have hT:=hW1.u.T
   have hV:∀ a,tv T1.u a=tv T1.u a:=fun _=>rfl
   have hi1:i<T1.u.length:=by omega
   have ht1:t<T1.u.length:=by omega
   have bG:=hT.outer
   repeat' first|apply jS|apply jO|apply jN|apply jT|(refine Qg (h1:=?_) (h2:=?_)<;>intro hc<;>try omega)|apply jK|refine Q5 rfl ?_|apply jB
   refine Zh (o:=0) (j:=1) rfl rfl rfl (fun _=>rfl) rfl oq ?_
   repeat' first|apply jD|apply jN|refine Q1 ?_|refine Q0 ?_|refine Q7 ?_|refine Zv (h:=?_)|refine YJ (h:=?_)|apply jT
   refine Q1o (A:=(b29,.cells #[W1.d,W1.u,W1.ui] 82)::(b,.cells (dF W1 m n t s) 84)::[]) (N:=W1.Nu) (B:=tH T1.u++(W1.dM++(tH T1.ui++(W1.Nd++(tH T1.d++(W1.Nv++(tH T1.v++(W1.dV++(tH T1.vi++[]))))))))) hT.outer (by simp only[Vg,Vr,Vb];rfl) rfl au rfl rfl (Yd hT oq).1 (Yd hT oq).2 oq (fun N4 hO4=>?_)
   simp only[Vg,Vr,Vb]
   repeat' first|refine Zv (h:=?_)|fail
   refine Q1o (A:=(b29,.cells #[W1.d,W1.u,W1.ui] 82)::(b,.cells (dF W1 m n t s) 84)::[]) (N:=N4) (B:=tH T1.u++(W1.dM++(tH T1.ui++(W1.Nd++(tH T1.d++(W1.Nv++(tH T1.v++(W1.dV++(tH T1.vi++[]))))))))) hO4 (by simp only[Vg,Vr,Vb]) rfl au rfl rfl (Yd hT oq).1 (Yd hT oq).2 oq (fun N5 iy=>?_)
   simp only[Vg,Vr,Vb]
   have hsw:dP N5 W1.u m m (jg T1.u i t) (eY i t (S.u)):=hW1.u.swap hi bD iy
   have hkp:=hW1.u.swapK hi bD hsw
   have htp:=Q1l (XI (ts:=T1.u) (p:=i) (q:=t) hi1 ht1)
   have hkk:(keys (aK b { W1 with Nu:=N5 } m n t s { T1 with u:=jg T1.u i t })).Perm (keys (aK b W1 m n t s T1)):=Q42 hkp (.refl _) (.refl _) (.refl _) (.refl _)
   repeat' first|apply jO|apply jN|apply jT|refine Q1 ?_|refine Qd ?_|apply jW
   refine Q8 (2,{ W1 with Nu:=N5 },{ T1 with u:=jg T1.u i t }) ⟨by dsimp only;omega,⟨hsw,hW1.ui,hW1.d,hW1.v,hW1.vi⟩,⟨hS1.u,hS1.ui,hS1.d,hS1.v,hS1.vi⟩,hkk.trans hk1⟩ aW aC (HSub.at 0 rfl (HSub.at 0 rfl (Y5 ((htp.symm.append_right _).append_left _))))
  ·have hl:=hW1.ui.len
   have hT:=hW1.ui.T
   have hV:∀ a,tv T1.ui a=tv T1.ui a:=fun _=>rfl
   have hi1:i<T1.ui.length:=by omega
   have ht1:t<T1.ui.length:=by omega
   have bG:=hT.outer
   repeat' first|apply jS|apply jO|apply jN|apply jT|(refine Qg (h1:=?_) (h2:=?_)<;>intro hc<;>try omega)|apply jK|refine Q5 rfl ?_|apply jB
   refine Zh (o:=0) (j:=2) rfl rfl rfl (fun _=>rfl) rfl oq ?_
   repeat' first|apply jD|apply jN|refine Q1 ?_|refine Q0 ?_|refine Q7 ?_|refine Zv (h:=?_)|refine YJ (h:=?_)|apply jT
   refine Q1o (A:=(b29,.cells #[W1.d,W1.u,W1.ui] 82)::(b,.cells (dF W1 m n t s) 84)::(W1.Nu++(tH T1.u))) (N:=W1.dM) (B:=tH T1.ui++(W1.Nd++(tH T1.d++(W1.Nv++(tH T1.v++(W1.dV++(tH T1.vi++[]))))))) hT.outer (by simp only[Vg,Vr,Vb];rfl) rfl au rfl rfl (Yd hT oq).1 (Yd hT oq).2 oq (fun N4 hO4=>?_)
   simp only[Vg,Vr,Vb]
   repeat' first|refine Zv (h:=?_)|fail
   refine Q1o (A:=(b29,.cells #[W1.d,W1.u,W1.ui] 82)::(b,.cells (dF W1 m n t s) 84)::(W1.Nu++(tH T1.u))) (N:=N4) (B:=tH T1.ui++(W1.Nd++(tH T1.d++(W1.Nv++(tH T1.v++(W1.dV++(tH T1.vi++[]))))))) hO4 (by simp only[Vg,Vr,Vb]) rfl au rfl rfl (Yd hT oq).1 (Yd hT oq).2 oq (fun N5 iy=>?_)
   simp only[Vg,Vr,Vb]
   have hsw:dP N5 W1.ui m m (jg T1.ui i t) (eY i t (iG m m S.ui)):=hW1.ui.swap hi bD iy
   have hkp:=hW1.ui.swapK hi bD hsw
   have htp:=Q1l (XI (ts:=T1.ui) (p:=i) (q:=t) hi1 ht1)
   rw[← Qda hD.ui hi bD]at hsw
   have hkk:(keys (aK b { W1 with dM:=N5 } m n t s { T1 with ui:=jg T1.ui i t })).Perm (keys (aK b W1 m n t s T1)):=Q42 (.refl _) hkp (.refl _) (.refl _) (.refl _)
   repeat' first|apply jO|apply jN|apply jT|refine Q1 ?_|refine Qd ?_|apply jW
   refine Q8 (3,{ W1 with dM:=N5 },{ T1 with ui:=jg T1.ui i t }) ⟨by dsimp only;omega,⟨hW1.u,hsw,hW1.d,hW1.v,hW1.vi⟩,⟨hS1.u,hS1.ui,hS1.d,hS1.v,hS1.vi⟩,hkk.trans hk1⟩ aW aC (HSub.at 0 rfl (HSub.at 0 rfl (Y5 ((((htp.symm.append_right _).append_left _).append_left _).append_left _))))
 ·obtain rfl:q=3:=by omega
  clear hlt
  have hld:=hW1.d.len
  have hTd:=hW1.d.T
  have hVd:∀ a,tv T1.d a=tv T1.d a:=fun _=>rfl
  have hlv:=hW1.v.len
  have hlvi:=hW1.vi.len
  repeat' first|apply jS|apply jO|apply jN|apply jT|refine Q1 ?_|refine Q2 ?_|refine Q7 ?_|refine Qjk (h:=?_)|refine Q3 ?_|(refine Qg (h1:=?_) (h2:=?_)<;>intro hc<;>try omega)|apply jU|apply jE|refine Q4 rfl ?_|apply jB|apply Qc
  refine Qn (ι:=Nat × List TR) ⟨fun z=>[(55,nv z.1),(54,nv m),(53,W1.d),(6,nv t),(0,.pointer (some ⟨b,0,none⟩)),(2,nv k)],fun z=>(b,.cells (dF W1 m n t s) 84)::(W1.Nu++(tH T1.u++(W1.dM++(tH T1.ui++(W1.Nd++(tH z.2++(W1.Nv++(tH T1.v++(W1.dV++(tH T1.vi++[])))))))))),
   fun z=>z.1≤m∧cO W1.Nd W1.d n z.2∧z.2.length=T1.d.length∧(∀ a,tv z.2 a=tv T1.d a)∧∀ a x,tM z.2 a x=if a<z.1 then tM T1.d a (jr k t x) else tM T1.d a x,fun z=>m-z.1⟩ (0,T1.d)
   ⟨by omega,hTd,rfl,hVd,fun a x=>by rw[if_neg oq]⟩ aC (HSub.skip (HSub.refl _)) (fun z hz=>?_)
  clear hTd hVd
  obtain⟨c,d1⟩:=z
  obtain⟨hcm,hTd,hld1,hVd,iO⟩:=hz
  dsimp only at hcm hTd hld1 hVd iO ⊢
  unfold dF
  by_cases hlt:c<m
  ·have hc1:c<d1.length:=by omega
   have e1:tM d1 c t=tM T1.d c t:=by rw[iO,if_neg oq]
   have e2:tM d1 c k=tM T1.d c k:=by rw[iO,if_neg oq]
   repeat' first|apply jS|apply jO|apply jD|apply jN|apply jT|refine Q1 ?_|refine Q0 ?_|refine Zp (h:=?_)|refine Zv (h:=?_)|refine YQ (h:=?_)|refine YJ (h:=?_)|(refine Qg (h1:=?_) (h2:=?_)<;>intro hc<;>try omega)|apply jK|refine Q5 rfl ?_|apply jB
   refine Q3l (A:=(b,.cells (dF W1 m n t s) 84)::(W1.Nu++(tH T1.u++(W1.dM++tH T1.ui)))) (N:=W1.Nd) (B:=W1.Nv++(tH T1.v++(W1.dV++(tH T1.vi++[])))) (i:=c) (j:=k) (V:=tv T1.d) (u:=tM d1 c t) hVd hTd (by simp only[Vg,Vr,Vb];rfl) rfl au rfl rfl hc1 hk (fun d2 hT2 hl2 hV2 hM2=>?_)
   simp only[Vg,Vr,Vb]
   repeat' first|refine Zp (h:=?_)|fail
   refine Q3l (A:=(b,.cells (dF W1 m n t s) 84)::(W1.Nu++(tH T1.u++(W1.dM++tH T1.ui)))) (N:=W1.Nd) (B:=W1.Nv++(tH T1.v++(W1.dV++(tH T1.vi++[])))) (i:=c) (j:=t) (V:=tv T1.d) (u:=tM d1 c k) hV2 hT2 (by simp only[Vg,Vr,Vb]) rfl au rfl rfl oq htn (fun d3 hT3 hl3 hV3 hM3=>?_)
   simp only[Vg,Vr,Vb]
   repeat' first|apply jO|apply jN|apply jT|refine Q1 ?_|refine Qd ?_|apply jW
   refine Q8 (c+1,d3) ⟨by dsimp only;omega,hT3,by dsimp only;omega,hV3,fun a x=>?_⟩ aW aC (HSub.refl _)
   dsimp only
   rw[hM3,hM2,e1,e2,iO]
   unfold jr
   by_cases h1:a=c
   ·subst h1
    rw[if_pos (Nat.lt_succ_self a),if_neg (Nat.lt_irrefl a)]
    by_cases h2:x=t
    ·rw[if_pos ⟨rfl,h2⟩,if_pos h2]
    ·rw[if_neg (fun h=>h2 h.2),if_neg h2]
     by_cases h3:x=k
     ·rw[if_pos ⟨rfl,h3⟩,if_pos h3]
     ·rw[if_neg (fun h=>h3 h.2),if_neg h3]
   ·rw[if_neg (fun h=>h1 h.1),if_neg (fun h=>h1 h.1)]
    have e:a<c+1↔a<c:=by omega
    simp only[e]
  ·obtain rfl:c=m:=by omega
   clear hlt
   have hX:dP W1.Nd W1.d c n d1 (iR k t (eY i t S.d)):=hW1.d.exC hk htn hTd hld1 (fun a x=>by rw[iO,hld])
   obtain⟨S2,hS2⟩:∃ S2:Sm,S2=⟨eY i t S.u,iR i t S.ui,iR k t (eY i t S.d),S.v,S.vi⟩:=⟨_,rfl⟩
   have hW2:dB W1 c n { T1 with d:=d1 } S2:=by rw[hS2];exact⟨hW1.u,hW1.ui,hX,hW1.v,hW1.vi⟩
   have hkd:(keys (aK b W1 c n t s { T1 with d:=d1 })).Perm (keys (aK b W c n t s T)):=(Q2x hW1 hW2 ⟨fun _=>rfl,fun _=>rfl,hVd,fun _=>rfl,fun _=>rfl⟩).trans hk1
   have hD2:Rec n n S2.v:=by rw[hS2];exact hD.v
   have hend:exP2 k t S2 2=S.ex i k t:=by rw[hS2];rfl
   clear hk1 hS2 hX
   have hfv1:W1.v=_:=hS1.v.trans hfv
   have hfj1:W1.vi=_:=hS1.vi.trans hfj
   repeat' first|apply jS|apply jO|apply jD|apply jN|apply jT|refine Q1 ?_|refine Q2 ?_|refine Q7 ?_|refine Q3 ?_|(refine Qg (h1:=?_) (h2:=?_)<;>intro hc<;>try omega)|apply jU|apply jE|refine Q4 rfl ?_|apply Qc
   refine Zr (l:=[(0,W1.v),(1,W1.vi)]) (cs:=#[W1.v,W1.vi]) rfl rfl rfl rfl dq dq (by rw[hfv1,hfj1];kernel_rfl) (fun b82=>?_)
   repeat' first|apply jN|apply jT|refine ZC (h:=?_)|apply jB
   refine Qn (ι:=Nat × WV × WT) ⟨fun z=>[(84,nv z.1),(83,nv 2),(82,.slice (some ⟨b82,0,none⟩) 2 2),(6,nv t),(0,.pointer (some ⟨b,0,none⟩)),(2,nv k)],fun z=>(b82,.cells #[z.2.1.v,z.2.1.vi] 82)::aK b z.2.1 c n t s z.2.2,
    fun z=>z.1≤2∧dB z.2.1 c n z.2.2 (exP2 k t S2 z.1)∧dY W z.2.1∧(keys (aK b z.2.1 c n t s z.2.2)).Perm (keys (aK b W c n t s T)),fun z=>2-z.1⟩ (0,W1,{ T1 with d:=d1 }) ⟨by omega,hW2,hS1,hkd⟩ aC (HSub.refl _) (fun z hz=>?_)
   clear hW2 hS1 hkd hW1 hfv1 hfj1 hlv hlvi iO hVd hTd hld hld1
   obtain⟨q,W1,T1⟩:=z
   obtain⟨hq,hW1,hS1,hk1⟩:=hz
   dsimp only at hq hW1 hS1 hk1 ⊢
   unfold aK dF
   by_cases hlt:q<2
   ·have h3:q=0∨q=1:=by omega
    rcases h3 with rfl|rfl
    ·have hl:=hW1.v.len
     have hT:=hW1.v.T
     have hV:∀ a,tv T1.v a=tv T1.v a:=fun _=>rfl
     have hi1:k<T1.v.length:=by omega
     have ht1:t<T1.v.length:=by omega
     have bG:=hT.outer
     repeat' first|apply jS|apply jO|apply jN|apply jT|(refine Qg (h1:=?_) (h2:=?_)<;>intro hc<;>try omega)|apply jK|refine Q5 rfl ?_|apply jB
     refine Zh (o:=0) (j:=0) rfl rfl rfl (fun _=>rfl) rfl oq ?_
     repeat' first|apply jD|apply jN|refine Q1 ?_|refine Q0 ?_|refine Q7 ?_|refine Zv (h:=?_)|refine YJ (h:=?_)|apply jT
     refine Q1o (A:=(b82,.cells #[W1.v,W1.vi] 82)::(b,.cells (dF W1 c n t s) 84)::(W1.Nu++(tH T1.u++(W1.dM++(tH T1.ui++(W1.Nd++(tH T1.d))))))) (N:=W1.Nv) (B:=tH T1.v++(W1.dV++(tH T1.vi++[]))) hT.outer (by simp only[Vg,Vr,Vb];rfl) rfl au rfl rfl (Yd hT oq).1 (Yd hT oq).2 oq (fun N4 hO4=>?_)
     simp only[Vg,Vr,Vb]
     repeat' first|refine Zv (h:=?_)|fail
     refine Q1o (A:=(b82,.cells #[W1.v,W1.vi] 82)::(b,.cells (dF W1 c n t s) 84)::(W1.Nu++(tH T1.u++(W1.dM++(tH T1.ui++(W1.Nd++(tH T1.d))))))) (N:=N4) (B:=tH T1.v++(W1.dV++(tH T1.vi++[]))) hO4 (by simp only[Vg,Vr,Vb]) rfl au rfl rfl (Yd hT oq).1 (Yd hT oq).2 oq (fun N5 iy=>?_)
     simp only[Vg,Vr,Vb]
     have hsw:dP N5 W1.v n n (jg T1.v k t) (eY k t (iG n n S2.v)):=hW1.v.swap hk htn iy
     have hkp:=hW1.v.swapK hk htn hsw
     have htp:=Q1l (XI (ts:=T1.v) (p:=k) (q:=t) hi1 ht1)
     rw[← Qda hD2 hk htn]at hsw
     have hkk:(keys (aK b { W1 with Nv:=N5 } c n t s { T1 with v:=jg T1.v k t })).Perm (keys (aK b W1 c n t s T1)):=Q42 (.refl _) (.refl _) (.refl _) hkp (.refl _)
     repeat' first|apply jO|apply jN|apply jT|refine Q1 ?_|refine Qd ?_|apply jW
     refine Q8 (1,{ W1 with Nv:=N5 },{ T1 with v:=jg T1.v k t }) ⟨by dsimp only;omega,⟨hW1.u,hW1.ui,hW1.d,hsw,hW1.vi⟩,⟨hS1.u,hS1.ui,hS1.d,hS1.v,hS1.vi⟩,hkk.trans hk1⟩ aW aC (HSub.at 0 rfl (HSub.at 0 rfl (Y5 ((((((((htp.symm.append_right _).append_left _).append_left _).append_left _).append_left _).append_left _).append_left _).append_left _))))
    ·have hl:=hW1.vi.len
     have hT:=hW1.vi.T
     have hV:∀ a,tv T1.vi a=tv T1.vi a:=fun _=>rfl
     have hi1:k<T1.vi.length:=by omega
     have ht1:t<T1.vi.length:=by omega
     have bG:=hT.outer
     repeat' first|apply jS|apply jO|apply jN|apply jT|(refine Qg (h1:=?_) (h2:=?_)<;>intro hc<;>try omega)|apply jK|refine Q5 rfl ?_|apply jB
     refine Zh (o:=0) (j:=1) rfl rfl rfl (fun _=>rfl) rfl oq ?_
     repeat' first|apply jD|apply jN|refine Q1 ?_|refine Q0 ?_|refine Q7 ?_|refine Zv (h:=?_)|refine YJ (h:=?_)|apply jT
     refine Q1o (A:=(b82,.cells #[W1.v,W1.vi] 82)::(b,.cells (dF W1 c n t s) 84)::(W1.Nu++(tH T1.u++(W1.dM++(tH T1.ui++(W1.Nd++(tH T1.d++(W1.Nv++(tH T1.v))))))))) (N:=W1.dV) (B:=tH T1.vi++[]) hT.outer (by simp only[Vg,Vr,Vb];rfl) rfl au rfl rfl (Yd hT oq).1 (Yd hT oq).2 oq (fun N4 hO4=>?_)
     simp only[Vg,Vr,Vb]
     repeat' first|refine Zv (h:=?_)|fail
     refine Q1o (A:=(b82,.cells #[W1.v,W1.vi] 82)::(b,.cells (dF W1 c n t s) 84)::(W1.Nu++(tH T1.u++(W1.dM++(tH T1.ui++(W1.Nd++(tH T1.d++(W1.Nv++(tH T1.v))))))))) (N:=N4) (B:=tH T1.vi++[]) hO4 (by simp only[Vg,Vr,Vb]) rfl au rfl rfl (Yd hT oq).1 (Yd hT oq).2 oq (fun N5 iy=>?_)
     simp only[Vg,Vr,Vb]
     have hsw:dP N5 W1.vi n n (jg T1.vi k t) (eY k t (S2.vi)):=hW1.vi.swap hk htn iy
     have hkp:=hW1.vi.swapK hk htn hsw
     have htp:=Q1l (XI (ts:=T1.vi) (p:=k) (q:=t) hi1 ht1)
     have hkk:(keys (aK b { W1 with dV:=N5 } c n t s { T1 with vi:=jg T1.vi k t })).Perm (keys (aK b W1 c n t s T1)):=Q42 (.refl _) (.refl _) (.refl _) (.refl _) hkp
     repeat' first|apply jO|apply jN|apply jT|refine Q1 ?_|refine Qd ?_|apply jW
     refine Q8 (2,{ W1 with dV:=N5 },{ T1 with vi:=jg T1.vi k t }) ⟨by dsimp only;omega,⟨hW1.u,hW1.ui,hW1.d,hW1.v,hsw⟩,⟨hS1.u,hS1.ui,hS1.d,hS1.v,hS1.vi⟩,hkk.trans hk1⟩ aW aC (HSub.at 0 rfl (HSub.at 0 rfl (Y5 ((((((((((htp.symm.append_right _).append_left _).append_left _).append_left _).append_left _).append_left _).append_left _).append_left _).append_left _).append_left _))))
   ·obtain rfl:q=2:=by omega
    repeat' first|apply jS|apply jO|apply jN|apply jT|(refine Qg (h1:=?_) (h2:=?_)<;>intro hc<;>try omega)|apply jU|apply jE|refine Q4 rfl ?_|apply Qc
    exact Ze (fun a w'' st=>⟨st.kp,W1,T1,hk1,fun p hp=>st.hs.blk p (by exact Vc _ hp),by rw[← hend];exact hW1,hS1⟩)


theorem Qk1 (w:World) (x:Int) :
  Calls Tryz.prog 116 #[Wv x] w (aQ fun v w'=>Kp [] w w'∧v=Wv ((x.natAbs:Nat):Int)):=by
 have e:(.agg #[.bool false,sv (aS x.natAbs)]:Value)=Wv ((x.natAbs:Nat):Int):=by
  unfold Wv wv
  rw[decide_eq_false oq,Int.natAbs_natCast]
 refine Qa [] [] aA [] Tryz.func116 rfl mixed (by kernel_rfl) Tryz.ntmps116 Tryz.results116 rfl ⟨by simp,by simp⟩ aA ?_
 simp only[toS,Qe,Qx,Qo,Qr,ay,Ql,Qy,aB]
 repeat' first|apply jS|apply jO|apply jN|refine Q2 ?_|refine Q7 ?_|refine Qh fun _=>?_|refine QM (h:=fun _=>?_)|apply jT
 refine Zw (l:=[(1,sv (aS x.natAbs))]) (cs:=#[.bool false,sv (aS x.natAbs)]) rfl rfl rfl rfl ?_
 repeat' first|apply jN|apply jT|refine Q6 ?_|refine Q6 ?_|apply jR
 exact Z0 0 rfl rfl rfl (fun a w' st=>⟨st.kp,by rw[← e]⟩)

theorem Qbi (K:Nat) (w:World) (b:Nat) (W:WV) (m n t:Nat) (s:Int) (T:WT) (S:Sm) (hW:dB W m n T S) (hs:aG (aK b W m n t s T) w) (hm:m≤200) (hn:n≤200) (bD:t≤m) (htn:t≤n) (hK:K≤9000000000) (hb:gZ K S.d=true) :
  Calls Tryz.prog 51 #[.pointer (some ⟨b,0,none⟩)] w (aQ fun v w'=>Kp [] w w'∧v=.tuple #[iD (Qv S t m n),iM (Qv S t m n)]):=by
 have hM:=QK hs
 have hld:=hW.d.len
 have hTd:=hW.d.T
 have hVd:∀ a,tv T.d a=tv T.d a:=fun _=>rfl
 have hat:=hW.d.at
 refine Qa [⟨9,0,[0,1,2,3,4,5,6,7,9,10,11,12,13,14,15,16,17,18,8,19,20,21,22,23],[]⟩] (keys (aK b W m n t s T)) hM (aK b W m n t s T) Tryz.func51 rfl mixed (by kernel_rfl) Tryz.ntmps51 Tryz.results51 rfl hs (fun p hp=>List.mem_map.2 ⟨p,hp,rfl⟩) ?_
 simp only[toS,Qe,Qx,Qo,Qr,ay,Ql,Qy,aB]
 unfold aK dF
 repeat' first|apply jS|apply jO|apply jN|apply jT|refine Q1 ?_|refine Q2 ?_|refine Q0 ?_|refine Q7 ?_|refine Q3 ?_|apply jB
 refine Qn (ι:=Nat × Nat × Nat × Bool) ⟨fun z=>[(4,nv z.1),(2,iD z.2),(3,iM z.2),(0,.pointer (some ⟨b,0,none⟩))],fun _=>aK b W m n t s T,
  fun z=>t≤z.1∧z.1≤m∧(z.2.2.2=true→z.2.1<m∧z.2.2.1<n)∧Qv S t m n=(List.range' z.1 (m-z.1)).foldl (WH S t n) z.2,fun z=>m-z.1⟩ (t,0,0,false) ⟨V7 _,bD,fun h=>(by cases h),rfl⟩ aC (HSub.refl _) (fun z hz=>?_)
 obtain⟨i,x,y,fl⟩:=z
 obtain⟨hti,him,hin,hls⟩:=hz
 dsimp only at hti him hin hls ⊢
 unfold aK dF
 by_cases hlt:i<m
 ·rw[QS hlt,List.foldl_cons]at hls
  repeat' first|apply jS|apply jO|apply jN|apply jT|refine Q1 ?_|refine Q2 ?_|refine Q0 ?_|refine Q7 ?_|refine Q3 ?_|(refine Qg (h1:=?_) (h2:=?_)<;>intro hc<;>try omega)|apply jK|refine Q5 rfl ?_|apply jB
  refine Qn (ι:=Nat × Nat × Nat × Bool) ⟨fun z=>[(5,nv z.1),(4,nv i),(2,iD z.2),(3,iM z.2),(0,.pointer (some ⟨b,0,none⟩))],fun _=>aK b W m n t s T,
   fun z=>t≤z.1∧z.1≤n∧(z.2.2.2=true→z.2.1<m∧z.2.2.1<n)∧Qv S t m n=(List.range' (i+1) (m-(i+1))).foldl (WH S t n) ((List.range' z.1 (n-z.1)).foldl (bY S i) z.2),fun z=>n-z.1⟩ (t,x,y,fl) ⟨V7 _,htn,hin,hls⟩ aC (HSub.refl _) (fun z hz=>?_)
  clear hls hin
  obtain⟨j,x,y,fl⟩:=z
  obtain⟨htj,hjn,hin,hls⟩:=hz
  dsimp only at htj hjn hin hls ⊢
  unfold aK dF
  by_cases hjt:j<n
  ·rw[QS hjt,List.foldl_cons]at hls
   have hx:(gE S.d i j).natAbs<256 ^ K:=QT hb _ _
   repeat' first|apply jS|apply jO|apply jD|apply jN|apply jT|refine Q1 ?_|refine Q2 ?_|refine Q7 ?_|refine Zp (h:=?_)|refine Zv (h:=?_)|refine YQ (h:=?_)|refine YJ (h:=?_)|refine Q3 ?_|refine Q6 ?_|refine Ya (h:=?_)|(refine Qg (h1:=?_) (h2:=?_)<;>intro hc<;>try omega)|refine Qh fun _=>?_|refine Q6 ?_|apply jK|refine Q5 rfl ?_|apply jB
   rename_i bx
   have hTx:tM T.d i j=gE S.d i j:=hat i j
   rw[hTx]
   have hmg:decide (aS (gE S.d i j).natAbs≠[])=decide (gE S.d i j≠0):=decide_eq_decide.2 (not_congr (bF.trans Int.natAbs_eq_zero))
   rw[hmg]
   by_cases hz:gE S.d i j=0
   ·have h1:bY S i (x,y,fl) j=(x,y,fl):=by unfold bY;rw[if_neg (fun h=>h.1 hz)]
    rw[h1]at hls
    rw[show decide (gE S.d i j≠0)=false from decide_eq_false (fun h=>h hz)]
    repeat' first|apply jO|apply jN|apply jT|refine Q1 ?_|refine Q0 ?_|refine Qd ?_|refine Qq ?_|apply jK|refine Q4 rfl ?_|refine QA ?_|apply jW
    exact Q8 (j+1,x,y,fl) ⟨by dsimp only;omega,by dsimp only;omega,hin,hls⟩ aW aC (by exact HSub.skip (HSub.refl _))
   ·rw[show decide (gE S.d i j≠0)=true from decide_eq_true hz]
    cases fl with
    | false =>
     have h1:bY S i (x,y,false) j=(i,j,true):=by unfold bY;rw[if_pos ⟨hz,.inl rfl⟩]
     rw[h1]at hls
     rw[show iD (x,y,false)=iv (-1) from rfl]
     repeat' first|apply jO|apply jN|apply jT|refine Q1 ?_|refine Q0 ?_|refine Qd ?_|refine Qp ?_|(refine Qg (h1:=?_) (h2:=?_)<;>intro hc<;>try omega)|refine Q5 rfl ?_|refine QA ?_|apply jW
     exact Q8 (j+1,i,j,true) ⟨by dsimp only;omega,by dsimp only;omega,fun _=>⟨hlt,hjt⟩,hls⟩ aW aC (by exact HSub.skip (HSub.refl _))
    | true =>
     obtain⟨hxm,hyn⟩:=hin rfl
     rw[show iD (x,y,true)=nv x from rfl,show iM (x,y,true)=nv y from rfl]
     repeat' first|refine Q1 ?_|refine Q2 ?_|refine Q7 ?_|refine Qm ?_|refine Zp (h:=?_)|refine Zv (h:=?_)|refine YQ (h:=?_)|refine YJ (h:=?_)|refine Q3 ?_|(refine Qg (h1:=?_) (h2:=?_)<;>intro hc<;>try omega)|fail
     refine Q9 au rfl aF rfl (fun w _ _=>Qk1 w (gE S.d i j)) fun w v w' _ _ _ hR=>?_
     subst hR
     skip
     have hTy:tM T.d x y=gE S.d x y:=hat x y
     rw[hTy]
     refine Q9 au rfl aF rfl (fun w _ _=>Qk1 w (gE S.d x y)) fun w v w' _ _ _ hR=>?_
     subst hR
     skip
     refine Q9 au rfl aF rfl (fun w _ _=>Qpr w _ _ (((gE S.d i j).natAbs:Nat):Int) (((gE S.d x y).natAbs:Nat):Int) K (QC (by simpa using hx)) (QC (by simpa using QT hb x y)) oq) fun w v w' _ _ _ hR=>?_
     subst hR
     have hsg:((((gE S.d i j).natAbs:Nat):Int)-(((gE S.d x y).natAbs:Nat):Int)).sign<0↔(gE S.d i j).natAbs<(gE S.d x y).natAbs:=by
      rw[Int.sign_neg_iff];omega
     by_cases hq:(gE S.d i j).natAbs<(gE S.d x y).natAbs
     ·have h1:bY S i (x,y,true) j=(i,j,true):=by unfold bY;rw[if_pos ⟨hz,.inr hq⟩]
      rw[h1]at hls
      have:=hsg.2 hq
      repeat' first|apply jO|apply jN|apply jT|refine Q1 ?_|refine Q0 ?_|refine Qd ?_|refine Qp ?_|refine Qq ?_|(refine Qg (h1:=?_) (h2:=?_)<;>intro hc<;>try omega)|refine Q5 rfl ?_|apply jW
      exact Q8 (j+1,i,j,true) ⟨by dsimp only;omega,by dsimp only;omega,fun _=>⟨hlt,hjt⟩,hls⟩ aW aC (by exact HSub.skip (HSub.refl _))
     ·have h1:bY S i (x,y,true) j=(x,y,true):=by
       unfold bY
       rw[if_neg]
       rintro⟨_,h|h⟩
       ·cases h
       ·exact hq h
      rw[h1]at hls
      have:=fun h=>hq (hsg.1 h)
      repeat' first|apply jO|apply jN|apply jT|refine Q1 ?_|refine Q0 ?_|refine Qd ?_|refine Qp ?_|refine Qq ?_|(refine Qg (h1:=?_) (h2:=?_)<;>intro hc<;>try omega)|apply jK|refine Q4 rfl ?_|apply jW
      exact Q8 (j+1,x,y,true) ⟨by dsimp only;omega,by dsimp only;omega,hin,hls⟩ aW aC (by exact HSub.skip (HSub.refl _))
  ·rw[show n-j=0 by omega]at hls
   repeat' first|apply jS|apply jO|apply jN|apply jT|refine Q1 ?_|refine Q2 ?_|refine Q0 ?_|refine Q7 ?_|refine Qd ?_|refine Q3 ?_|(refine Qg (h1:=?_) (h2:=?_)<;>intro hc<;>try omega)|apply jU|apply jE|refine Q4 rfl ?_|apply jW|apply Qc
   exact Q8 (i+1,x,y,fl) ⟨by dsimp only;omega,by dsimp only;omega,hin,hls⟩ aW aC (HSub.refl _)
 ·rw[show m-i=0 by omega]at hls
  have hls:Qv S t m n=(x,y,fl):=hls
  rw[hls]
  cases fl with
  | true =>
   rw[show iD (x,y,true)=nv x from rfl,show iM (x,y,true)=nv y from rfl]
   repeat' first|apply jS|apply jO|apply jN|apply jT|refine Q1 ?_|refine Q2 ?_|refine Q0 ?_|refine Q7 ?_|refine Q3 ?_|(refine Qg (h1:=?_) (h2:=?_)<;>intro hc<;>try omega)|apply jU|apply jE|apply jR|refine Q4 rfl ?_|apply Qc
   all_goals first
    | (exfalso;omega)
    | exact Yy [nv x,nv y] ⟨rfl,rfl,trivial⟩ (fun a w' st=>⟨Z3 hs st.kp (fun p hp=>st.hs.blk p hp),rfl⟩)
  | false =>
   rw[show iD (x,y,false)=iv (-1) from rfl,show iM (x,y,false)=iv (-1) from rfl]
   repeat' first|apply jS|apply jO|apply jN|apply jT|refine Q1 ?_|refine Q2 ?_|refine Q0 ?_|refine Q7 ?_|refine Q3 ?_|(refine Qg (h1:=?_) (h2:=?_)<;>intro hc<;>try omega)|apply jU|apply jE|apply jR|refine Q4 rfl ?_|apply Qc
   all_goals first
    | (exfalso;omega)
    | exact Yy [iv (-1),iv (-1)] ⟨rfl,rfl,trivial⟩ (fun a w' st=>⟨Z3 hs st.kp (fun p hp=>st.hs.blk p hp),rfl⟩)

def dvV (x y:Int):Value:=.tuple #[Wv (if y=0 then 0 else -(x / y)),.bool (decide (gQ x y≠0))]
theorem Q6t (K:Nat) (w:World) (b:Nat) (W:WV) (m n t:Nat) (s:Int) (T:WT) (S:Sm) (x:Int) (hW:dB W m n T S) (hs:aG (aK b W m n t s T) w) (hm:m≤200) (hn:n≤200) (bD:t<m) (htn:t<n) (hK:K≤4000000000) (hx:x.natAbs<256 ^ K) (hb:gZ K S.d=true) :
  Calls Tryz.prog 108 #[.pointer (some ⟨b,0,none⟩),Wv x] w (aQ fun v w'=>Kp [] w w'∧v=dvV x (gE S.d t t)):=by
 have hM:=QK hs
 have hld:=hW.d.len
 have hTd:=hW.d.T
 have hVd:∀ a,tv T.d a=tv T.d a:=fun _=>rfl
 have hy:(tM T.d t t).natAbs<256 ^ K:=WW hW.d hb t t
 refine Qa [⟨1,3,[],[]⟩,⟨2,1,[0,2,3,4,1,5,6],[]⟩] (keys (aK b W m n t s T)) hM (aK b W m n t s T) Tryz.func108 rfl mixed (by kernel_rfl) Tryz.ntmps108 Tryz.results108 rfl hs (fun p hp=>List.mem_map.2 ⟨p,hp,rfl⟩) ?_
 simp only[toS,Qe,Qx,Qo,Qr,ay,Ql,Qy,aB]
 unfold aK dF
 rw[← hW.d.at t t]
 repeat' first|apply jS|apply jO|apply jD|apply jN|refine Q1 ?_|refine Q2 ?_|refine Q0 ?_|refine Q7 ?_|refine Qm ?_|refine Zp (h:=?_)|refine Zv (h:=?_)|refine YQ (h:=?_)|refine YJ (h:=?_)|refine Q3 ?_|refine Qh fun _=>?_|refine QM (h:=fun _=>?_)|apply jT
 refine Q9 au rfl aF rfl (fun w _ _=>Qoo w _ _ x (tM T.d t t) K (QC hx) (QC hy) oq) fun w v w' _ _ _ hR=>?_
 have hQ:∃ q r z,v=.tuple #[Wv q,Wv r,.bool z]∧q=(if tM T.d t t=0 then 0 else x / tM T.d t t)∧r=gQ x (tM T.d t t)∧q.natAbs<256 ^ K:=by
  unfold gQ
  by_cases h0:tM T.d t t=0
  ·rw[if_pos h0]at hR;exact⟨0,0,false,hR,by rw[if_pos h0],by rw[if_pos h0],pos256 K⟩
  ·rw[if_neg h0]at hR;exact⟨_,_,true,hR,by rw[if_neg h0],by rw[if_neg h0],by have:=XR x (tM T.d t t);omega⟩
 clear hR
 obtain⟨q,r,z,rfl,hq,hr,hqb⟩:=hQ
 repeat' first|apply jS|apply jN|refine Q1 ?_|refine Q0 ?_|refine Qu (h:=?_)|refine Q6 ?_|refine Qh fun _=>?_|refine Q6 ?_|apply jT
 rename_i b6 b7
 refine XY [(b7,.cells #[.bool (decide (r<0)),sv (aS r.natAbs)] 75),(b6,.cells #[.bool (decide (q<0)),sv (aS q.natAbs)] 75)] QE ?_
 repeat' first|refine Q2 ?_|refine Q7 ?_|refine Qm ?_|refine Ya (h:=?_)|fail
 refine Q9 au rfl aF rfl (fun w _ _=>Q9d w _ q K (QC hqb) oq) fun w v w' _ _ _ hR=>?_
 subst hR
 have hmg:decide (aS r.natAbs≠[])=decide (gQ x (tM T.d t t)≠0):=by rw[← hr];exact decide_eq_decide.2 (not_congr (bF.trans Int.natAbs_eq_zero))
 rw[hmg]
 have hnq : -q=(if tM T.d t t=0 then 0 else -(x / tM T.d t t)):=by
  rw[hq]
  split
  ·rfl
  ·rfl
 repeat' first|apply jN|apply jT|refine Q0 ?_|refine Q3k (k:=_) (h:=?_)|apply jR
 exact Zg 2 rfl rfl rfl rfl (fun a w' st=>⟨Z3 hs st.kp (fun p hp=>st.hs.blk p (by exact Vc _ (Vc _ (Vc _ (Vc _ hp))))),by unfold dvV;rw[← hnq];rfl⟩)


def ngP (t:Nat) (S:Sm):Nat→Sm
 | 0=>S
 | 1=>⟨S.u,S.ui,negR t S.d,S.v,S.vi⟩
 | 2=>⟨negR t S.u,S.ui,negR t S.d,S.v,S.vi⟩
 | _=>⟨negR t S.u,negC t S.ui,negR t S.d,S.v,S.vi⟩
theorem dP.ngR {N:aj} {v:Value} {r c t:Nat} {ts ts':List TR} {g:List (List Int)} (h:dP N v r c ts g) (ht:t<r) (hT:cO N v c ts') (hl:ts'.length=ts.length)
  (e:∀ a b,tM ts' a b=if a=t∧b<c then -(tM ts a b) else tM ts a b):dP N v r c ts' (negR t g) :=
 h.of hT hl (h.rc.negR ht) fun a b ha hb=>by
  rw[e,Qf6 h.rc ht hb,h.at]
  have e2:(a=t∧b<c)↔a=t:=by omega
  simp only[e2]

theorem Qfy (K:Nat) (w:World) (b:Nat) (W:WV) (m n t:Nat) (s:Int) (T:WT) (S:Sm) (hW:dB W m n T S) (hD:Dm m n S) (hs:aG (aK b W m n t s T) w) (hm:m≤200) (hn:n≤200) (bD:t<m) (htn:t<n) (hK:K≤4000000000) (hb:Ok K S) :
  Calls Tryz.prog 114 #[.pointer (some ⟨b,0,none⟩)] w (aQ fun _ w'=>jl b W m n t s T ((t+1:Nat):Int) s (if gE S.d t t<0 then S.neg t else S) w w'):=by
 have hM:=QK hs
 have hld:=hW.d.len
 have hlu:=hW.u.len
 have hlui:=hW.ui.len
 have hTd:=hW.d.T
 have hTu:=hW.u.T
 have hTui:=hW.ui.T
 have hVd:∀ a,tv T.d a=tv T.d a:=fun _=>rfl
 have hVu:∀ a,tv T.u a=tv T.u a:=fun _=>rfl
 have hVui:∀ a,tv T.ui a=tv T.ui a:=fun _=>rfl
 have htd:t<T.d.length:=by omega
 have htu:t<T.u.length:=by omega
 have htui:t<T.ui.length:=by omega
 refine Qa [⟨2,0,[0,1,2,3,4,5,6,7,8,9,10,11,12,13,14,15,16,17,18,19,20,23,21,22],[]⟩] (keys (aK b W m n t s T)) hM (aK b W m n t s T) Tryz.func114 rfl mixed (by kernel_rfl) Tryz.ntmps114 Tryz.results114 rfl hs (fun p hp=>List.mem_map.2 ⟨p,hp,rfl⟩) ?_
 simp only[toS,Qe,Qx,Qo,Qr,ay,Ql,Qy,aB]
 unfold aK dF
 have hat:=hW.d.at t t
 repeat' first|apply jS|apply jO|apply jN|refine Q1 ?_|refine Q2 ?_|refine Q0 ?_|refine Q7 ?_|refine Zp (h:=?_)|refine Zv (h:=?_)|refine YQ (h:=?_)|refine YJ (h:=?_)|refine Q3 ?_|apply jT
 refine Q9 au rfl aF rfl (fun w _ _=>Qg7 w _ (tM T.d t t) K (QC (WW hW.d hb.d t t)) oq) fun w v w' _ _ _ hR=>?_
 rw[hat]at hR
 subst hR
 have hsg:(gE S.d t t).sign<0↔gE S.d t t<0:=Int.sign_neg_iff
 by_cases hneg:gE S.d t t<0
 ·have:=hsg.2 hneg
  rw[if_pos hneg]
  repeat' first|apply jS|apply jD|apply jN|apply jT|refine Q1 ?_|refine Q2 ?_|refine Q7 ?_|refine Zv (h:=?_)|refine YJ (h:=?_)|refine Q3 ?_|(refine Qg (h1:=?_) (h2:=?_)<;>intro hc<;>try omega)|refine Q5 rfl ?_
  all_goals first
   | (exfalso;omega)
   | skip
  obtain⟨Ad,cd,hfd⟩:=(hTd.row htd).form
  obtain⟨Au,cu,hfu⟩:=(hTu.row htu).form
  obtain⟨Ai,ci,hfi⟩:=(hTui.row htui).form
  refine Zr (l:=[(0,tv T.d t),(1,tv T.u t),(2,tv T.ui t)]) (cs:=#[tv T.d t,tv T.u t,tv T.ui t]) rfl rfl rfl rfl dq dq (by rw[hfd,hfu,hfi];kernel_rfl) (fun b44=>?_)
  repeat' first|apply jN|apply jT|refine ZC (h:=?_)|apply jB
  refine Qn (ι:=Nat × WT) ⟨fun z=>[(46,nv z.1),(45,nv 3),(44,.slice (some ⟨b44,0,none⟩) 3 3),(2,nv t),(0,.pointer (some ⟨b,0,none⟩))],fun z=>(b44,.cells #[tv T.d t,tv T.u t,tv T.ui t] 26)::aK b W m n t s z.2,
   fun z=>z.1≤3∧dB W m n z.2 (ngP t S z.1)∧iF T z.2,fun z=>3-z.1⟩ (0,T) ⟨by omega,hW,iF.refl T⟩ aC (HSub.refl _) (fun z hz=>?_)
  clear hTd hTu hTui hVd hVu hVui hlu hlui hld htd htu htui hat
  obtain⟨q,T1⟩:=z
  obtain⟨hq,hW1,hS1⟩:=hz
  dsimp only at hq hW1 hS1 ⊢
  unfold aK dF
  by_cases hlt:q<3
  ·have h3:q=0∨q=1∨q=2:=by omega
   rcases h3 with rfl|rfl|rfl
   ·have hl:=hW1.d.len
    have hT1:=hW1.d.T
    have hbd:∀ k,(tM T1.d t k).natAbs<256 ^ K:=fun k=>by rw[hW1.d.at];exact QT (hb.d) t k
    have hV1:∀ a,tv T1.d a=tv T.d a:=hS1.d
    have htl:t<T1.d.length:=by omega
    repeat' first|apply jS|apply jO|apply jN|apply jT|(refine Qg (h1:=?_) (h2:=?_)<;>intro hc<;>try omega)|apply jK|refine Q5 rfl ?_|apply jB
    refine Zh (o:=0) (j:=0) rfl rfl rfl (fun _=>rfl) rfl oq ?_
    repeat' first|apply jS|apply jO|apply jN|refine Q1 ?_|refine Q0 ?_|refine Q7 ?_|apply jT
    refine Q5y (i:=t) (V:=tv T.d) rfl rfl rfl hV1 hT1 htl ?_
    repeat' first|apply jN|apply jT|refine Q1 ?_|apply jB
    refine Qn (ι:=Nat × List TR) ⟨fun z=>[(52,nv z.1),(51,nv n),(50,tv T.d t),(4,tv T.d t),(46,nv 0),(45,nv 3),(44,.slice (some ⟨b44,0,none⟩) 3 3),(2,nv t),(0,.pointer (some ⟨b,0,none⟩))],fun z=>(b44,.cells #[tv T.d t,tv T.u t,tv T.ui t] 26)::(b,.cells (dF W m n t s) 84)::(W.Nu++(tH T1.u++(W.dM++(tH T1.ui++(W.Nd++(tH z.2++(W.Nv++(tH T1.v++(W.dV++(tH T1.vi++[])))))))))),
     fun z=>z.1≤n∧cO W.Nd W.d n z.2∧z.2.length=T1.d.length∧(∀ a,tv z.2 a=tv T.d a)∧∀ a x,tM z.2 a x=if a=t∧x<z.1 then -(tM T1.d a x) else tM T1.d a x,fun z=>n-z.1⟩ (0,T1.d) ⟨by omega,hT1,rfl,hV1,fun a x=>by rw[if_neg oq]⟩ aC (HSub.refl _) (fun z hz=>?_)
    clear hT1 hV1
    obtain⟨c,d1⟩:=z
    obtain⟨hc,hT,hl1,hV,iO⟩:=hz
    dsimp only at hc hT hl1 hV iO ⊢
    unfold dF
    by_cases hlt2:c<n
    ·have e1:tM d1 t c=tM T1.d t c:=by rw[iO,if_neg oq]
     have htl1:t<d1.length:=by omega
     repeat' first|apply jS|apply jO|apply jN|apply jT|refine Q1 ?_|refine Q0 ?_|refine Qm ?_|refine Zp (h:=?_)|refine YQ (h:=?_)|refine Q6 ?_|(refine Qg (h1:=?_) (h2:=?_)<;>intro hc<;>try omega)|refine Qh fun _=>?_|refine Q6 ?_|apply jK|refine Q5 rfl ?_|apply jB
     refine Q9 au rfl aF rfl (fun w _ _=>Q9d w _ (tM d1 t c) K (QC (by rw[e1];exact hbd c)) oq) fun w v w' _ _ _ hR=>?_
     rw[e1]at hR
     subst hR
     repeat' first|refine Zp (h:=?_)|fail
     refine Q3l (A:=_::(b44,.cells #[tv T.d t,tv T.u t,tv T.ui t] 26)::(b,.cells (dF W m n t s) 84)::(W.Nu++(tH T1.u++(W.dM++(tH T1.ui))))) (N:=W.Nd) (B:=W.Nv++(tH T1.v++(W.dV++(tH T1.vi++[])))) (i:=t) (j:=c) (V:=tv T.d) (u := -(tM T1.d t c)) hV hT (by simp only[Vg,Vr,Vb];rfl) rfl au rfl rfl htl1 hlt2 (fun d2 hT2 hl2 hV2 hM2=>?_)
     simp only[Vg,Vr,Vb]
     repeat' first|apply jO|apply jN|apply jT|refine Q1 ?_|refine Qd ?_|apply jW
     refine Q8 (c+1,d2) ⟨by dsimp only;omega,hT2,by dsimp only;omega,hV2,fun a x=>?_⟩ aW aC (HSub.skip (HSub.refl _))
     dsimp only
     rw[hM2,iO]
     by_cases h1:a=t∧x=c
     ·obtain⟨rfl,rfl⟩:=h1
      rw[if_pos ⟨rfl,rfl⟩,if_pos ⟨rfl,by omega⟩]
     ·rw[if_neg h1]
      have e2:(a=t∧x<c+1)↔(a=t∧x<c):=by omega
      simp only[e2]
    ·have hcc:c=n:=by omega
     rw[hcc]at iO
     have hX:=hW1.d.ngR bD hT hl1 iO
     repeat' first|apply jS|apply jO|apply jN|apply jT|refine Q1 ?_|refine Qd ?_|(refine Qg (h1:=?_) (h2:=?_)<;>intro hc<;>try omega)|apply jU|apply jE|refine Q4 rfl ?_|apply jW|apply Qc
     exact Q8 (1,{ T1 with d:=d1 }) ⟨by dsimp only;omega,⟨hW1.u,hW1.ui,hX,hW1.v,hW1.vi⟩,⟨hS1.u,hS1.ui,hV,hS1.v,hS1.vi⟩⟩ aW aC (HSub.refl _)
   ·have hl:=hW1.u.len
    have hT1:=hW1.u.T
    have hbd:∀ k,(tM T1.u t k).natAbs<256 ^ K:=fun k=>by rw[hW1.u.at];exact QT (hb.u) t k
    have hV1:∀ a,tv T1.u a=tv T.u a:=hS1.u
    have htl:t<T1.u.length:=by omega
    repeat' first|apply jS|apply jO|apply jN|apply jT|(refine Qg (h1:=?_) (h2:=?_)<;>intro hc<;>try omega)|apply jK|refine Q5 rfl ?_|apply jB
    refine Zh (o:=0) (j:=1) rfl rfl rfl (fun _=>rfl) rfl oq ?_
    repeat' first|apply jS|apply jO|apply jN|refine Q1 ?_|refine Q0 ?_|refine Q7 ?_|apply jT
    refine Q5y (i:=t) (V:=tv T.u) rfl rfl rfl hV1 hT1 htl ?_
    repeat' first|apply jN|apply jT|refine Q1 ?_|apply jB
    refine Qn (ι:=Nat × List TR) ⟨fun z=>[(52,nv z.1),(51,nv m),(50,tv T.u t),(4,tv T.u t),(46,nv 1),(45,nv 3),(44,.slice (some ⟨b44,0,none⟩) 3 3),(2,nv t),(0,.pointer (some ⟨b,0,none⟩))],fun z=>(b44,.cells #[tv T.d t,tv T.u t,tv T.ui t] 26)::(b,.cells (dF W m n t s) 84)::(W.Nu++(tH z.2++(W.dM++(tH T1.ui++(W.Nd++(tH T1.d++(W.Nv++(tH T1.v++(W.dV++(tH T1.vi++[])))))))))),
     fun z=>z.1≤m∧cO W.Nu W.u m z.2∧z.2.length=T1.u.length∧(∀ a,tv z.2 a=tv T.u a)∧∀ a x,tM z.2 a x=if a=t∧x<z.1 then -(tM T1.u a x) else tM T1.u a x,fun z=>m-z.1⟩ (0,T1.u) ⟨by omega,hT1,rfl,hV1,fun a x=>by rw[if_neg oq]⟩ aC (HSub.refl _) (fun z hz=>?_)
    clear hT1 hV1
    obtain⟨c,d1⟩:=z
    obtain⟨hc,hT,hl1,hV,iO⟩:=hz
    dsimp only at hc hT hl1 hV iO ⊢
    unfold dF
    by_cases hlt2:c<m
    ·have e1:tM d1 t c=tM T1.u t c:=by rw[iO,if_neg oq]
     have htl1:t<d1.length:=by omega
     repeat' first|apply jS|apply jO|apply jN|apply jT|refine Q1 ?_|refine Q0 ?_|refine Qm ?_|refine Zp (h:=?_)|refine YQ (h:=?_)|refine Q6 ?_|(refine Qg (h1:=?_) (h2:=?_)<;>intro hc<;>try omega)|refine Qh fun _=>?_|refine Q6 ?_|apply jK|refine Q5 rfl ?_|apply jB
     refine Q9 au rfl aF rfl (fun w _ _=>Q9d w _ (tM d1 t c) K (QC (by rw[e1];exact hbd c)) oq) fun w v w' _ _ _ hR=>?_
     rw[e1]at hR
     subst hR
     repeat' first|refine Zp (h:=?_)|fail
     refine Q3l (A:=_::(b44,.cells #[tv T.d t,tv T.u t,tv T.ui t] 26)::(b,.cells (dF W m n t s) 84)::[]) (N:=W.Nu) (B:=W.dM++(tH T1.ui++(W.Nd++(tH T1.d++(W.Nv++(tH T1.v++(W.dV++(tH T1.vi++[])))))))) (i:=t) (j:=c) (V:=tv T.u) (u := -(tM T1.u t c)) hV hT (by simp only[Vg,Vr,Vb];rfl) rfl au rfl rfl htl1 hlt2 (fun d2 hT2 hl2 hV2 hM2=>?_)
     simp only[Vg,Vr,Vb]
     repeat' first|apply jO|apply jN|apply jT|refine Q1 ?_|refine Qd ?_|apply jW
     refine Q8 (c+1,d2) ⟨by dsimp only;omega,hT2,by dsimp only;omega,hV2,fun a x=>?_⟩ aW aC (HSub.skip (HSub.refl _))
     dsimp only
     rw[hM2,iO]
     by_cases h1:a=t∧x=c
     ·obtain⟨rfl,rfl⟩:=h1
      rw[if_pos ⟨rfl,rfl⟩,if_pos ⟨rfl,by omega⟩]
     ·rw[if_neg h1]
      have e2:(a=t∧x<c+1)↔(a=t∧x<c):=by omega
      simp only[e2]
    ·have hcc:c=m:=by omega
     rw[hcc]at iO
     have hX:=hW1.u.ngR bD hT hl1 iO
     repeat' first|apply jS|apply jO|apply jN|apply jT|refine Q1 ?_|refine Qd ?_|(refine Qg (h1:=?_) (h2:=?_)<;>intro hc<;>try omega)|apply jU|apply jE|refine Q4 rfl ?_|apply jW|apply Qc
     exact Q8 (2,{ T1 with u:=d1 }) ⟨by dsimp only;omega,⟨hX,hW1.ui,hW1.d,hW1.v,hW1.vi⟩,⟨hV,hS1.ui,hS1.d,hS1.v,hS1.vi⟩⟩ aW aC (HSub.refl _)
   ·have hl:=hW1.ui.len
    have hT1:=hW1.ui.T
    have hbd:∀ k,(tM T1.ui t k).natAbs<256 ^ K:=fun k=>by rw[hW1.ui.at];exact QT (Qel hb.ui) t k
    have hV1:∀ a,tv T1.ui a=tv T.ui a:=hS1.ui
    have htl:t<T1.ui.length:=by omega
    repeat' first|apply jS|apply jO|apply jN|apply jT|(refine Qg (h1:=?_) (h2:=?_)<;>intro hc<;>try omega)|apply jK|refine Q5 rfl ?_|apply jB
    refine Zh (o:=0) (j:=2) rfl rfl rfl (fun _=>rfl) rfl oq ?_
    repeat' first|apply jS|apply jO|apply jN|refine Q1 ?_|refine Q0 ?_|refine Q7 ?_|apply jT
    refine Q5y (i:=t) (V:=tv T.ui) rfl rfl rfl hV1 hT1 htl ?_
    repeat' first|apply jN|apply jT|refine Q1 ?_|apply jB
    refine Qn (ι:=Nat × List TR) ⟨fun z=>[(52,nv z.1),(51,nv m),(50,tv T.ui t),(4,tv T.ui t),(46,nv 2),(45,nv 3),(44,.slice (some ⟨b44,0,none⟩) 3 3),(2,nv t),(0,.pointer (some ⟨b,0,none⟩))],fun z=>(b44,.cells #[tv T.d t,tv T.u t,tv T.ui t] 26)::(b,.cells (dF W m n t s) 84)::(W.Nu++(tH T1.u++(W.dM++(tH z.2++(W.Nd++(tH T1.d++(W.Nv++(tH T1.v++(W.dV++(tH T1.vi++[])))))))))),
     fun z=>z.1≤m∧cO W.dM W.ui m z.2∧z.2.length=T1.ui.length∧(∀ a,tv z.2 a=tv T.ui a)∧∀ a x,tM z.2 a x=if a=t∧x<z.1 then -(tM T1.ui a x) else tM T1.ui a x,fun z=>m-z.1⟩ (0,T1.ui) ⟨by omega,hT1,rfl,hV1,fun a x=>by rw[if_neg oq]⟩ aC (HSub.refl _) (fun z hz=>?_)
    clear hT1 hV1
    obtain⟨c,d1⟩:=z
    obtain⟨hc,hT,hl1,hV,iO⟩:=hz
    dsimp only at hc hT hl1 hV iO ⊢
    unfold dF
    by_cases hlt2:c<m
    ·have e1:tM d1 t c=tM T1.ui t c:=by rw[iO,if_neg oq]
     have htl1:t<d1.length:=by omega
     repeat' first|apply jS|apply jO|apply jN|apply jT|refine Q1 ?_|refine Q0 ?_|refine Qm ?_|refine Zp (h:=?_)|refine YQ (h:=?_)|refine Q6 ?_|(refine Qg (h1:=?_) (h2:=?_)<;>intro hc<;>try omega)|refine Qh fun _=>?_|refine Q6 ?_|apply jK|refine Q5 rfl ?_|apply jB
     refine Q9 au rfl aF rfl (fun w _ _=>Q9d w _ (tM d1 t c) K (QC (by rw[e1];exact hbd c)) oq) fun w v w' _ _ _ hR=>?_
     rw[e1]at hR
     subst hR
     repeat' first|refine Zp (h:=?_)|fail
     refine Q3l (A:=_::(b44,.cells #[tv T.d t,tv T.u t,tv T.ui t] 26)::(b,.cells (dF W m n t s) 84)::(W.Nu++(tH T1.u))) (N:=W.dM) (B:=W.Nd++(tH T1.d++(W.Nv++(tH T1.v++(W.dV++(tH T1.vi++[])))))) (i:=t) (j:=c) (V:=tv T.ui) (u := -(tM T1.ui t c)) hV hT (by simp only[Vg,Vr,Vb];rfl) rfl au rfl rfl htl1 hlt2 (fun d2 hT2 hl2 hV2 hM2=>?_)
     simp only[Vg,Vr,Vb]
     repeat' first|apply jO|apply jN|apply jT|refine Q1 ?_|refine Qd ?_|apply jW
     refine Q8 (c+1,d2) ⟨by dsimp only;omega,hT2,by dsimp only;omega,hV2,fun a x=>?_⟩ aW aC (HSub.skip (HSub.refl _))
     dsimp only
     rw[hM2,iO]
     by_cases h1:a=t∧x=c
     ·obtain⟨rfl,rfl⟩:=h1
      rw[if_pos ⟨rfl,rfl⟩,if_pos ⟨rfl,by omega⟩]
     ·rw[if_neg h1]
      have e2:(a=t∧x<c+1)↔(a=t∧x<c):=by omega
      simp only[e2]
    ·have hcc:c=m:=by omega
     rw[hcc]at iO
     have hX:=hW1.ui.ngR bD hT hl1 iO
     rw[show ngP t S 2=⟨negR t S.u,S.ui,negR t S.d,S.v,S.vi⟩ from rfl, ← Qh2 hD.ui bD]at hX
     repeat' first|apply jS|apply jO|apply jN|apply jT|refine Q1 ?_|refine Qd ?_|(refine Qg (h1:=?_) (h2:=?_)<;>intro hc<;>try omega)|apply jU|apply jE|refine Q4 rfl ?_|apply jW|apply Qc
     exact Q8 (3,{ T1 with ui:=d1 }) ⟨by dsimp only;omega,⟨hW1.u,hX,hW1.d,hW1.v,hW1.vi⟩,⟨hS1.u,hV,hS1.d,hS1.v,hS1.vi⟩⟩ aW aC (HSub.refl _)
  ·obtain rfl:q=3:=by omega
   clear hlt
   repeat' first|apply jS|apply jO|apply jN|apply jT|refine Q1 ?_|refine Q2 ?_|refine Q7 ?_|refine Qd ?_|refine Q3 ?_|(refine Qg (h1:=?_) (h2:=?_)<;>intro hc<;>try omega)|refine QO ?_|apply jU|apply jE|refine Q4 rfl ?_|apply Qc
   exact Ze (fun a w' st=>⟨st.kp,W,T1,Q2x hW hW1 hS1,fun p hp=>st.hs.blk p (by exact Vc _ hp),hW1,dY.refl W⟩)
 ·have:=fun h=>hneg (hsg.1 h)
  rw[if_neg hneg]
  repeat' first|apply jO|apply jN|apply jT|refine Q1 ?_|refine Q2 ?_|refine Q7 ?_|refine Qd ?_|refine Q3 ?_|(refine Qg (h1:=?_) (h2:=?_)<;>intro hc<;>try omega)|refine QO ?_|apply jK|refine Q4 rfl ?_
  all_goals first
   | (exfalso;omega)
   | skip
  exact Ze (fun a w' st=>⟨st.kp,W,T,.refl _,fun p hp=>st.hs.blk p hp,hW,dY.refl W⟩)


theorem Qlm {A B:aj} {w w':World} (hs:aG (A++B) w) (h1:Kp (keys (A++B)) w w') (h2:∀ p∈A,w'.heap[p.1]?=some p.2):Kp (keys B) w w' :=
 ⟨h1.os, h1.tape, h1.output, h1.size, fun k hk hn => by
  by_cases hm:k∈keys A
  ·obtain⟨p,hp,rfl⟩:=List.mem_map.1 hm
   rw[h2 p hp,hs.blk p (List.mem_append_left _ hp)]
  ·exact h1.block k hk (by rw[Yu];exact fun h=>(List.mem_append.1 h).elim hm hn)⟩
theorem Q2w {A:aj} {b m n:Nat} {t s t' s':Int} {W W':WV} {T T':WT} {S':Sm} {w w':World} (hs:aG (A++aK b W m n t s T) w) (h1:Kp (keys (A++aK b W m n t s T)) w w') (h2:∀ p∈A,w'.heap[p.1]?=some p.2)
  (hk:(keys (aK b W' m n t' s' T')).Perm (keys (aK b W m n t s T))) (hi:∀ p∈aK b W' m n t' s' T',w'.heap[p.1]?=some p.2) (hW:dB W' m n T' S') (hS:dY W W'):jl b W m n t s T t' s' S' w w' :=
 ⟨Qlm hs h1 h2,W',T',hk,hi,hW,hS⟩
theorem Qma (K:Nat) (w:World) (b1 b2 b3:Nat) (b:Nat) (W:WV) (m n:Nat) (t:Nat) (s:Int) (T:WT) (S:Sm) (i k:Nat) (hW:dB W m n T S) (hD:Dm m n S) (hs:aG ([(b1,.cells #[.pointer (some ⟨b,0,none⟩)] 30),(b2,.cells #[nv i] 3),(b3,.cells #[nv k] 3)]++aK b W m n t s T) w) (hi:i<m) (hk:k<n) (bD:t<m) (htn:t<n) (hm:m≤200) (hn:n≤200) (hK:K≤4000000000) (hb:Ok K S) :
  Calls Tryz.prog 106 #[.pointer (some ⟨b1,0,none⟩),.pointer (some ⟨b2,0,none⟩),.pointer (some ⟨b3,0,none⟩)] w (aQ fun _ w'=>jl b W m n t s T t s (S.ex i k t) w w'):=by
 have hM:=QK hs
 have hs1:aG (aK b W m n t s T) w:=(Qf (M:=[(b1,.cells #[.pointer (some ⟨b,0,none⟩)] 30),(b2,.cells #[nv i] 3),(b3,.cells #[nv k] 3)]) (HSub.refl _)).aV hs
 refine Qa [] (keys ([(b1,.cells #[.pointer (some ⟨b,0,none⟩)] 30),(b2,.cells #[nv i] 3),(b3,.cells #[nv k] 3)]++aK b W m n t s T)) hM ([(b1,.cells #[.pointer (some ⟨b,0,none⟩)] 30),(b2,.cells #[nv i] 3),(b3,.cells #[nv k] 3)]++(aK b W m n t s T++[])) Tryz.func106 rfl mixed (by kernel_rfl) Tryz.ntmps106 Tryz.results106 rfl (by rw[Vh (aK b W m n t s T)];exact hs) (fun p hp=>List.mem_map.2 ⟨p,by rw[Vh (aK b W m n t s T)]at hp;exact hp,rfl⟩) ?_
 simp only[toS,Qe,Qx,Qo,Qr,ay,Ql,Qy,aB]
 repeat' first|refine Q7 ?_|apply jO
 refine XL (A:=[(b1,.cells #[.pointer (some ⟨b,0,none⟩)] 30),(b2,.cells #[nv i] 3),(b3,.cells #[nv k] 3)]) (N:=aK b W m n t s T) (B:=[]) (R:=fun w _ w'=>jl b W m n t s T t s (S.ex i k t) w w') rfl au rfl aF rfl (fun w _ hs=>?_) (fun w1 v1 w2 _ _ _ hR=>?_)
 ·have h:=Qoj w b W m n t s T S i k hW hD ((Qf (M:=[(b1,.cells #[.pointer (some ⟨b,0,none⟩)] 30),(b2,.cells #[nv i] 3),(b3,.cells #[nv k] 3)]) HSub.dJ).aV hs) hi hk bD htn hm hn
  exact Zk h fun v w' h=>⟨h.1,h⟩
 ·obtain⟨_,W',T',hkp,hin,hW',hS'⟩:=hR
  refine⟨aK b W' m n t s T',hkp,hin,?_⟩
  repeat' first|apply jN
  exact Ze (fun a w' st=>Q2w hs st.kp (fun p hp=>st.hs.blk p (List.mem_append_left _ hp)) hkp (fun p hp=>st.hs.blk p (List.mem_append_right _ (List.mem_append_left _ hp))) hW' hS')

theorem Qm9 (K:Nat) (w:World) (b1 b2 b3 b4:Nat) (b:Nat) (W:WV) (m n:Nat) (t:Nat) (s:Int) (T:WT) (S:Sm) (i k:Nat) (f:Int) (hW:dB W m n T S) (hD:Dm m n S) (hs:aG ([(b1,.cells #[.pointer (some ⟨b,0,none⟩)] 30),(b2,.cells #[nv i] 3),(b3,.cells #[nv k] 3),(b4,.cells #[.bool (decide (f<0)),sv (aS (f).natAbs)] 75)]++aK b W m n t s T) w) (hi:i<m) (hk:k<m) (hik:i≠k) (hf:f.natAbs<256 ^ K) (hm:m≤200) (hn:n≤200) (hK:K≤4000000000) (hb:Ok K S) :
  Calls Tryz.prog 109 #[.pointer (some ⟨b1,0,none⟩),.pointer (some ⟨b2,0,none⟩),.pointer (some ⟨b3,0,none⟩),.pointer (some ⟨b4,0,none⟩)] w (aQ fun _ w'=>jl b W m n t s T t s (S.rows i k (aT f)) w w'):=by
 have hM:=QK hs
 have hs1:aG (aK b W m n t s T) w:=(Qf (M:=[(b1,.cells #[.pointer (some ⟨b,0,none⟩)] 30),(b2,.cells #[nv i] 3),(b3,.cells #[nv k] 3),(b4,.cells #[.bool (decide (f<0)),sv (aS (f).natAbs)] 75)]) (HSub.refl _)).aV hs
 refine Qa [] (keys ([(b1,.cells #[.pointer (some ⟨b,0,none⟩)] 30),(b2,.cells #[nv i] 3),(b3,.cells #[nv k] 3),(b4,.cells #[.bool (decide (f<0)),sv (aS (f).natAbs)] 75)]++aK b W m n t s T)) hM ([(b1,.cells #[.pointer (some ⟨b,0,none⟩)] 30),(b2,.cells #[nv i] 3),(b3,.cells #[nv k] 3),(b4,.cells #[.bool (decide (f<0)),sv (aS (f).natAbs)] 75)]++(aK b W m n t s T++[])) Tryz.func109 rfl mixed (by kernel_rfl) Tryz.ntmps109 Tryz.results109 rfl (by rw[Vh (aK b W m n t s T)];exact hs) (fun p hp=>List.mem_map.2 ⟨p,by rw[Vh (aK b W m n t s T)]at hp;exact hp,rfl⟩) ?_
 simp only[toS,Qe,Qx,Qo,Qr,ay,Ql,Qy,aB]
 repeat' first|refine Q7 ?_|refine Qm ?_|apply jO
 refine XL (A:=[(b1,.cells #[.pointer (some ⟨b,0,none⟩)] 30),(b2,.cells #[nv i] 3),(b3,.cells #[nv k] 3),(b4,.cells #[.bool (decide (f<0)),sv (aS (f).natAbs)] 75)]) (N:=aK b W m n t s T) (B:=[]) (R:=fun w _ w'=>jl b W m n t s T t s (S.rows i k (aT f)) w w') rfl au rfl aF rfl (fun w _ hs=>?_) (fun w1 v1 w2 _ _ _ hR=>?_)
 ·have h:=Q8a K w b W m n t s T S i k f hW hD ((Qf (M:=[(b1,.cells #[.pointer (some ⟨b,0,none⟩)] 30),(b2,.cells #[nv i] 3),(b3,.cells #[nv k] 3),(b4,.cells #[.bool (decide (f<0)),sv (aS (f).natAbs)] 75)]) HSub.dJ).aV hs) hi hk hik hm hn hK hf hb
  exact Zk h fun v w' h=>⟨h.1,h⟩
 ·obtain⟨_,W',T',hkp,hin,hW',hS'⟩:=hR
  refine⟨aK b W' m n t s T',hkp,hin,?_⟩
  repeat' first|apply jN
  exact Ze (fun a w' st=>Q2w hs st.kp (fun p hp=>st.hs.blk p (List.mem_append_left _ hp)) hkp (fun p hp=>st.hs.blk p (List.mem_append_right _ (List.mem_append_left _ hp))) hW' hS')

theorem Qm8 (K:Nat) (w:World) (b1 b2 b3 b4:Nat) (b:Nat) (W:WV) (m n:Nat) (t:Nat) (s:Int) (T:WT) (S:Sm) (i k:Nat) (f:Int) (hW:dB W m n T S) (hD:Dm m n S) (hs:aG ([(b1,.cells #[.pointer (some ⟨b,0,none⟩)] 30),(b2,.cells #[nv i] 3),(b3,.cells #[nv k] 3),(b4,.cells #[.bool (decide (f<0)),sv (aS (f).natAbs)] 75)]++aK b W m n t s T) w) (hi:i<n) (hk:k<n) (hik:i≠k) (hf:f.natAbs<256 ^ K) (hm:m≤200) (hn:n≤200) (hK:K≤4000000000) (hb:Ok K S) :
  Calls Tryz.prog 111 #[.pointer (some ⟨b1,0,none⟩),.pointer (some ⟨b2,0,none⟩),.pointer (some ⟨b3,0,none⟩),.pointer (some ⟨b4,0,none⟩)] w (aQ fun _ w'=>jl b W m n t s T t s (S.cols i k (aT f)) w w'):=by
 have hM:=QK hs
 have hs1:aG (aK b W m n t s T) w:=(Qf (M:=[(b1,.cells #[.pointer (some ⟨b,0,none⟩)] 30),(b2,.cells #[nv i] 3),(b3,.cells #[nv k] 3),(b4,.cells #[.bool (decide (f<0)),sv (aS (f).natAbs)] 75)]) (HSub.refl _)).aV hs
 refine Qa [] (keys ([(b1,.cells #[.pointer (some ⟨b,0,none⟩)] 30),(b2,.cells #[nv i] 3),(b3,.cells #[nv k] 3),(b4,.cells #[.bool (decide (f<0)),sv (aS (f).natAbs)] 75)]++aK b W m n t s T)) hM ([(b1,.cells #[.pointer (some ⟨b,0,none⟩)] 30),(b2,.cells #[nv i] 3),(b3,.cells #[nv k] 3),(b4,.cells #[.bool (decide (f<0)),sv (aS (f).natAbs)] 75)]++(aK b W m n t s T++[])) Tryz.func111 rfl mixed (by kernel_rfl) Tryz.ntmps111 Tryz.results111 rfl (by rw[Vh (aK b W m n t s T)];exact hs) (fun p hp=>List.mem_map.2 ⟨p,by rw[Vh (aK b W m n t s T)]at hp;exact hp,rfl⟩) ?_
 simp only[toS,Qe,Qx,Qo,Qr,ay,Ql,Qy,aB]
 repeat' first|refine Q7 ?_|refine Qm ?_|apply jO
 refine XL (A:=[(b1,.cells #[.pointer (some ⟨b,0,none⟩)] 30),(b2,.cells #[nv i] 3),(b3,.cells #[nv k] 3),(b4,.cells #[.bool (decide (f<0)),sv (aS (f).natAbs)] 75)]) (N:=aK b W m n t s T) (B:=[]) (R:=fun w _ w'=>jl b W m n t s T t s (S.cols i k (aT f)) w w') rfl au rfl aF rfl (fun w _ hs=>?_) (fun w1 v1 w2 _ _ _ hR=>?_)
 ·have h:=Qfz K w b W m n t s T S i k f hW hD ((Qf (M:=[(b1,.cells #[.pointer (some ⟨b,0,none⟩)] 30),(b2,.cells #[nv i] 3),(b3,.cells #[nv k] 3),(b4,.cells #[.bool (decide (f<0)),sv (aS (f).natAbs)] 75)]) HSub.dJ).aV hs) hi hk hik hm hn hK hf hb
  exact Zk h fun v w' h=>⟨h.1,h⟩
 ·obtain⟨_,W',T',hkp,hin,hW',hS'⟩:=hR
  refine⟨aK b W' m n t s T',hkp,hin,?_⟩
  repeat' first|apply jN
  exact Ze (fun a w' st=>Q2w hs st.kp (fun p hp=>st.hs.blk p (List.mem_append_left _ hp)) hkp (fun p hp=>st.hs.blk p (List.mem_append_right _ (List.mem_append_left _ hp))) hW' hS')

theorem Qm7 (K:Nat) (w:World) (b1 b2 b3:Nat) (b:Nat) (W:WV) (m n:Nat) (t:Nat) (s:Int) (T:WT) (S:Sm) (i k:Nat) (hW:dB W m n T S) (hD:Dm m n S) (hs:aG ([(b1,.cells #[.pointer (some ⟨b,0,none⟩)] 30),(b2,.cells #[nv i] 3),(b3,.cells #[nv k] 3)]++aK b W m n t s T) w) (hi:i<m) (hk:k<m) (hik:i≠k) (hK1:1≤K) (hm:m≤200) (hn:n≤200) (hK:K≤4000000000) (hb:Ok K S) :
  Calls Tryz.prog 113 #[.pointer (some ⟨b1,0,none⟩),.pointer (some ⟨b2,0,none⟩),.pointer (some ⟨b3,0,none⟩)] w (aQ fun _ w'=>jl b W m n t s T t s (S.rows i k (aT 1)) w w'):=by
 have hM:=QK hs
 have hs1:aG (aK b W m n t s T) w:=(Qf (M:=[(b1,.cells #[.pointer (some ⟨b,0,none⟩)] 30),(b2,.cells #[nv i] 3),(b3,.cells #[nv k] 3)]) (HSub.refl _)).aV hs
 refine Qa [⟨0,1,[],[]⟩] (keys ([(b1,.cells #[.pointer (some ⟨b,0,none⟩)] 30),(b2,.cells #[nv i] 3),(b3,.cells #[nv k] 3)]++aK b W m n t s T)) hM ([(b1,.cells #[.pointer (some ⟨b,0,none⟩)] 30),(b2,.cells #[nv i] 3),(b3,.cells #[nv k] 3)]++(aK b W m n t s T++[])) Tryz.func113 rfl mixed (by kernel_rfl) Tryz.ntmps113 Tryz.results113 rfl (by rw[Vh (aK b W m n t s T)];exact hs) (fun p hp=>List.mem_map.2 ⟨p,by rw[Vh (aK b W m n t s T)]at hp;exact hp,rfl⟩) ?_
 simp only[toS,Qe,Qx,Qo,Qr,ay,Ql,Qy,aB]
 repeat' first|refine Q7 ?_|apply jD
 refine Q9 au rfl aF rfl (fun w _ _=>Qga w 1 dq dq) fun w v w' _ _ _ hR=>?_
 subst hR
 skip
 refine XL (A:=[(b1,.cells #[.pointer (some ⟨b,0,none⟩)] 30),(b2,.cells #[nv i] 3),(b3,.cells #[nv k] 3)]) (N:=aK b W m n t s T) (B:=[]) (R:=fun w _ w'=>jl b W m n t s T t s (S.rows i k (aT 1)) w w') rfl au rfl aF rfl (fun w _ hs=>?_) (fun w1 v1 w2 _ _ _ hR=>?_)
 ·have h:=Q8a K w b W m n t s T S i k 1 hW hD ((Qf (M:=[(b1,.cells #[.pointer (some ⟨b,0,none⟩)] 30),(b2,.cells #[nv i] 3),(b3,.cells #[nv k] 3)]) HSub.dJ).aV hs) hi hk hik hm hn hK (Z2 (K:=1) dq hK1) hb
  exact Zk h fun v w' h=>⟨h.1,h⟩
 ·obtain⟨_,W',T',hkp,hin,hW',hS'⟩:=hR
  refine⟨aK b W' m n t s T',hkp,hin,?_⟩
  repeat' first|apply jN
  exact Ze (fun a w' st=>Q2w hs st.kp (fun p hp=>st.hs.blk p (List.mem_append_left _ hp)) hkp (fun p hp=>st.hs.blk p (List.mem_append_right _ (List.mem_append_left _ hp))) hW' hS')

end Go.Proofs.YtbofgpenopcfaaaGreatDoor

