import Derived.Test.YtbofgpenopcfaaaGreatDoorMl
import Derived.Laws.Pointers
import Derived.Room.Shelf.Join48
import Derived.Shelf.Strconv.Itoa3
import Derived.Shelf.Strings.Split
set_option maxHeartbeats 16000000
namespace Go.Proofs.YtbofgpenopcfaaaGreatDoor
open Go Go.RowKit
set_option linter.unusedSimpArgs false
set_option linter.unusedVariables false
set_option linter.unusedSectionVars false

def NxR (b:Nat) (W:WV) (m n t:Nat) (s:Int) (T:WT):Option (Sm × Nat)→World→Value→World→Prop
 | none,_,v,_=>v=.tuple #[.agg #[.nilFunc],.bool false]
 | some r, w, v, w' => ∃ (f : FuncId) (_ : TF Tryz.prog f) (first cap : Array Value) (N : aj), v = .tuple #[.agg #[.func (.func f) first cap], .bool true] ∧ New N w w' ∧
   ∀ w2,aG (N++aK b W m n t s T) w2→Calls Tryz.prog f (first++#[]++cap) w2 (aQ fun _ w3=>jl b W m n t s T (r.2:Nat) s r.1 w2 w3)
theorem Wn {A B H:aj} (h:HSub (A++B) H):HSub (B++A) H:=(Y5 List.perm_append_comm).trans h
def nzR (S:Sm) (t i:Nat):Bool:=decide (gE S.d i t≠0)
def nzC (S:Sm) (t k:Nat):Bool:=decide (gE S.d t k≠0)
theorem Qlo {b m n:Nat} {t s:Int} {W:WV} {T:WT}:HSub (tH T.d) (aK b W m n t s T):=HSub.skip (Qf (Qf (Qf (Qf (Qf HSub.dJ)))))
theorem Qjy (K:Nat) (w:World) (b:Nat) (W:WV) (m n t:Nat) (s:Int) (T:WT) (S:Sm) (hW:dB W m n T S) (hD:Dm m n S) (hs:aG (aK b W m n t s T) w) (hm:m≤200) (hn:n≤200) (bD:t≤m) (htn:t≤n) (hK1:1≤K) (hK:K≤4000000000) (hb:Ok K S) :
  Calls Tryz.prog 50 #[.pointer (some ⟨b,0,none⟩)] w (aQ fun v w'=>Kp [] w w'∧NxR b W m n t s T (dH m n t S) w v w'):=by
 have hM:=QK hs
 have hld:=hW.d.len
 have hTd:=hW.d.T
 have hVd:∀ a,tv T.d a=tv T.d a:=fun _=>rfl
 have hat:=hW.d.at
 have hbd:=WW hW.d hb.d
 refine Qa [⟨10,2,[],[]⟩,⟨18,2,[],[]⟩] (keys (aK b W m n t s T)) hM (aK b W m n t s T) Tryz.func50 rfl mixed (by kernel_rfl) Tryz.ntmps50 Tryz.results50 rfl hs (fun p hp=>List.mem_map.2 ⟨p,hp,rfl⟩) ?_
 simp only[toS,Qe,Qx,Qo,Qr,ay,Ql,Qy,aB]
 repeat' first|apply jS|apply jO|apply jN|apply jT|refine Q2 ?_|refine Q0 ?_|refine Q7 ?_|refine Q3 ?_|refine Qh fun _=>?_|refine Ql4 (h:=fun _=>?_)|refine QO ?_|apply jC
 rename_i b1 b2 b4
 refine Q9 au rfl aF rfl (fun w _ hs=>Qbi K w b W m n t s T S hW ((show HSub (aK b W m n t s T) _ by exact HSub.skip (HSub.skip (HSub.skip (HSub.refl _)))).aV hs) hm hn bD htn oq hb.d) fun w v w' _ _ _ hR=>?_
 subst hR
 by_cases hle:(Qv S t m n).2.2=true
 ·obtain⟨⟨l1,l2,l3,l4⟩,hlv⟩:=X7 hle
  rw[show iD (Qv S t m n)=nv (Qv S t m n).1 by unfold iD;rw[if_pos hle],show iM (Qv S t m n)=nv (Qv S t m n).2.1 by unfold iM;rw[if_pos hle]]
  have bK:t<m:=by omega
  have cZ:t<n:=by omega
  repeat' first|refine Q1 ?_|refine Qu (h:=?_)|refine Qh fun _=>?_|refine QO ?_|apply jN
  rename_i b5 b6
  refine JX.part (F':=[(6,.pointer (some ⟨b6,0,none⟩)),(5,.pointer (some ⟨b5,0,none⟩)),(4,.pointer (some ⟨b4,0,none⟩)),(3,.bool false),(2,.pointer (some ⟨b2,0,none⟩)),(1,.pointer (some ⟨b1,0,none⟩))])
   (H':=[(b6,.cells #[nv (Qv S t m n).2.1] 3),(b5,.cells #[nv (Qv S t m n).1] 3),(b4,.cells #[nv t] 3),(b2,.cells #[.nilFunc] 97),(b1,.cells #[.pointer (some ⟨b,0,none⟩)] 30)]++aK b W m n t s T) aC QF ?_
  by_cases hmv:(Qv S t m n).1≠t∨(Qv S t m n).2.1≠t
  ·have hst:dH m n t S=some (S.ex (Qv S t m n).1 (Qv S t m n).2.1 t,t):=by
    unfold dH
    rw[if_neg (by rw[hle];simp),if_pos hmv]
   rw[hst]
   generalize (Qv S t m n).1=x at l1 l2 hmv ⊢
   generalize (Qv S t m n).2.1=y at l3 l4 hmv ⊢
   apply Zf
   repeat' first|apply jS|apply jO|apply jN|apply jT|refine Q1 ?_|refine Q0 ?_|refine Q7 ?_|refine Qp ?_|refine Qq ?_|(refine Qg (h1:=?_) (h2:=?_)<;>intro hc<;>try omega)|(refine ZP (h1:=?_) (h2:=?_)<;>intro hc<;>try omega)|refine Yg (h:=?_)|refine Q5 rfl ?_|refine Q4 rfl ?_|refine QA ?_|apply jB
   all_goals first
    | (exfalso;omega)
    | skip
   all_goals
    refine Zw (l:=[(0,.func (.func 106) #[] #[.pointer (some ⟨b1,0,none⟩),.pointer (some ⟨b5,0,none⟩),.pointer (some ⟨b6,0,none⟩)])]) (cs:=#[.func (.func 106) #[] #[.pointer (some ⟨b1,0,none⟩),.pointer (some ⟨b5,0,none⟩),.pointer (some ⟨b6,0,none⟩)]]) rfl rfl rfl rfl ?_
    repeat' first|apply jN|apply jT|refine Q0 ?_|refine Q6 ?_|refine Q6 ?_|apply jV|apply jR|apply Qz|refine XF ?_
    exact Zg 3 rfl rfl rfl rfl (fun a w' st=>⟨Z3 hs st.kp (fun p hp=>st.hs.blk p (by exact Vc _ (Vc _ (Vc _ (Vc _ (Vc _ (hp))))))),106,inferInstance,#[],#[.pointer (some ⟨b1,0,none⟩),.pointer (some ⟨b5,0,none⟩),.pointer (some ⟨b6,0,none⟩)],[(b1,.cells #[.pointer (some ⟨b,0,none⟩)] 30),(b5,.cells #[nv x] 3),(b6,.cells #[nv y] 3)],rfl,newJ (H0:=aK b W m n t s T) st rfl (Wn QF),fun w2 h2=>Qma K w2 b1 b5 b6 b W m n t s T S x y hW hD h2 l2 l4 bK cZ hm hn hK hb⟩)
  ·obtain⟨e1,e2⟩:(Qv S t m n).1=t∧(Qv S t m n).2.1=t:=by omega
   rw[e1]at l2
   rw[e2]at l4
   rw[e1,e2]at hlv
   have hst:dH m n t S=match ji S t m with
     | some i=>some (S.rows i t (aT (-(gE S.d i t / gE S.d t t))),t)
     | none => match jy S t n with
      | some k=>some (S.cols k t (aT (-(gE S.d t k / gE S.d t t))),t)
      | none=>match Z7 S t m n with
       | some i=>some (S.rows t i (aT 1),t)
       | none=>some (if gE S.d t t<0 then S.neg t else S,t+1):=by
    unfold dH
    rw[if_neg (by rw[hle];simp),if_neg hmv]
    rfl
   rw[hst,e1,e2]
   clear hst
   apply Zf
   repeat' first|apply jS|apply jO|apply jN|apply jT|refine Q1 ?_|refine Q0 ?_|refine Q7 ?_|refine Qd ?_|refine Qq ?_|(refine Qg (h1:=?_) (h2:=?_)<;>intro hc<;>try omega)|(refine ZP (h1:=?_) (h2:=?_)<;>intro hc<;>try omega)|refine Qh fun _=>?_|refine QO ?_|apply jK|refine Q4 rfl ?_|apply jB|apply jW
   all_goals first
    | (exfalso;omega)
    | skip
   rename_i b7
   refine Qn (ι:=Nat × Nat) ⟨fun z=>[(7,.pointer (some ⟨z.2,0,none⟩)),(4,.pointer (some ⟨b4,0,none⟩)),(3,.bool false),(2,.pointer (some ⟨b2,0,none⟩)),(1,.pointer (some ⟨b1,0,none⟩))],fun z=>[(z.2,.cells #[nv z.1] 3),(b4,.cells #[nv t] 3),(b2,.cells #[.nilFunc] 97),(b1,.cells #[.pointer (some ⟨b,0,none⟩)] 30)]++aK b W m n t s T,
    fun z=>t+1≤z.1∧z.1≤m∧ji S t m=(List.range' z.1 (m-z.1)).find? (nzR S t),fun z=>m-z.1⟩ (t+1,b7) ⟨by omega,by omega,rfl⟩ aC QF (fun z hz=>?_)
   clear b7
   obtain⟨i,bz⟩:=z
   obtain⟨hti,him,hfs⟩:=hz
   dsimp only at hti him hfs ⊢
   by_cases hlt:i<m
   ·rw[QS hlt,List.find?_cons]at hfs
    have hx:(tM T.d i t).natAbs<256 ^ K:=hbd _ _
    repeat' first|apply jS|apply jD|apply jN|apply jT|refine Q2 ?_|refine Q7 ?_|refine Zp (h:=?_)|refine Zv (h:=?_)|refine YQ (h:=?_)|refine YJ (h:=?_)|refine Q3 ?_|(refine Qg (h1:=?_) (h2:=?_)<;>intro hc<;>try omega)|apply jK|refine Q5 rfl ?_|apply jB
    all_goals first
     | (exfalso;omega)
     | skip
    refine Q9 au rfl aF rfl (fun w _ hs=>Q6t K w b W m n t s T S (tM T.d i t) hW ((show HSub (aK b W m n t s T) _ by exact HSub.skip (HSub.skip (HSub.skip (HSub.skip (HSub.refl _))))).aV hs) hm hn bK cZ hK hx hb.d) fun w v w' _ _ _ hR=>?_
    unfold dvV at hR
    rw[if_neg hlv]at hR
    subst hR
    repeat' first|apply jS|apply jD|apply jN|refine Q1 ?_|refine Q2 ?_|refine Q0 ?_|refine Q7 ?_|refine Zp (h:=?_)|refine Zv (h:=?_)|refine YJ (h:=?_)|refine Q3 ?_|refine Qu (h:=?_)|refine Q6 ?_|refine Qh fun _=>?_|refine Q6 ?_|apply jT
    rename_i bq
    refine Qa9 rfl rfl rfl (hTd.row (i:=i) oq).rd oq ?_
    skip
    refine Qjl rfl rfl rfl rfl (hTd.row (i:=i) oq).rd ((Q4v (Q4u oq)).trans (by exact HSub.skip (HSub.skip (HSub.skip (HSub.skip (HSub.skip Qlo)))))) oq ?_
    have hdt:((tr' T.d i).getD t 0)=gE S.d i t:=hat i t
    rw[hdt]
    repeat' first|apply jN|refine Ya (h:=?_)|apply jT
    have hmg:decide (aS (gE S.d i t).natAbs≠[])=nzR S t i:=by exact decide_eq_decide.2 (not_congr (bF.trans Int.natAbs_eq_zero))
    rw[hmg]
    cases hnz:nzR S t i with
    | true =>
     rw[hnz]at hfs
     have hfs:ji S t m=some i:=hfs
     rw[hfs,hat]
     try dsimp only
     have hxs:(-(gE S.d i t / gE S.d t t)).natAbs<256 ^ K:=by
      rw[hat]at hx
      rw[Int.natAbs_neg]
      have:=XR (gE S.d i t) (gE S.d t t)
      omega
     generalize hqq : -(gE S.d i t / gE S.d t t)=q at hxs ⊢
     repeat' first|apply jS|apply jO|refine Yg (h:=?_)|refine Q5 rfl ?_
     refine Zw (l:=[(0,.func (.func 109) #[] #[.pointer (some ⟨b1,0,none⟩),.pointer (some ⟨bz,0,none⟩),.pointer (some ⟨b4,0,none⟩),.pointer (some ⟨bq,0,none⟩)])]) (cs:=#[.func (.func 109) #[] #[.pointer (some ⟨b1,0,none⟩),.pointer (some ⟨bz,0,none⟩),.pointer (some ⟨b4,0,none⟩),.pointer (some ⟨bq,0,none⟩)]]) rfl rfl rfl rfl ?_
     repeat' first|apply jN|apply jT|refine Q0 ?_|refine Q6 ?_|refine Q6 ?_|apply jV|apply jR|apply Qz|refine XF ?_
     exact Zg 3 rfl rfl rfl rfl (fun a w' st=>⟨Z3 hs st.kp (fun p hp=>st.hs.blk p (by exact Vc _ (Vc _ (Vc _ (Vc _ (Vc _ (hp))))))),109,inferInstance,#[],#[.pointer (some ⟨b1,0,none⟩),.pointer (some ⟨bz,0,none⟩),.pointer (some ⟨b4,0,none⟩),.pointer (some ⟨bq,0,none⟩)],[(b1,.cells #[.pointer (some ⟨b,0,none⟩)] 30),(bz,.cells #[nv i] 3),(b4,.cells #[nv t] 3),(bq,.cells #[.bool (decide (q<0)),sv (aS (q).natAbs)] 75)],rfl,newJ (H0:=aK b W m n t s T) st rfl (Wn QF),fun w2 h2=>Qm9 K w2 b1 bz b4 bq b W m n t s T S i t q hW hD h2 hlt bK oq hxs hm hn hK hb⟩)
    | false =>
     rw[hnz]at hfs
     repeat' first|apply jS|apply jO|apply jN|apply jT|refine Q7 ?_|refine Qd ?_|refine Qh fun _=>?_|refine QO ?_|apply jK|refine Q4 rfl ?_|apply jW
     rename_i bn
     exact Q8 (i+1,bn) ⟨by dsimp only;omega,by dsimp only;omega,hfs⟩ aW aC QF
   ·rw[show m-i=0 by omega]at hfs
    have hfs:ji S t m=none:=hfs
    rw[hfs]
    try dsimp only
    repeat' first|apply jS|apply jO|apply jD|apply jN|apply jT|refine Q2 ?_|refine Q7 ?_|refine Qd ?_|refine Q3 ?_|(refine Qg (h1:=?_) (h2:=?_)<;>intro hc<;>try omega)|refine Qh fun _=>?_|refine QO ?_|apply jU|apply jE|refine Q4 rfl ?_|apply jB|apply Qc
    all_goals first
     | (exfalso;omega)
     | skip
    clear hfs hlt hti him
    rename_i b10
    refine Qn (ι:=Nat × Nat) ⟨fun z=>[(10,.pointer (some ⟨z.2,0,none⟩)),(4,.pointer (some ⟨b4,0,none⟩)),(3,.bool false),(2,.pointer (some ⟨b2,0,none⟩)),(1,.pointer (some ⟨b1,0,none⟩))],fun z=>[(z.2,.cells #[nv z.1] 3),(b4,.cells #[nv t] 3),(b2,.cells #[.nilFunc] 97),(b1,.cells #[.pointer (some ⟨b,0,none⟩)] 30)]++aK b W m n t s T,
     fun z=>t+1≤z.1∧z.1≤n∧jy S t n=(List.range' z.1 (n-z.1)).find? (nzC S t),fun z=>n-z.1⟩ (t+1,b10) ⟨by omega,by omega,rfl⟩ aC QF (fun z hz=>?_)
    clear b10
    obtain⟨i,bz⟩:=z
    obtain⟨hti,him,hfs⟩:=hz
    dsimp only at hti him hfs ⊢
    by_cases hlt:i<n
    ·rw[QS hlt,List.find?_cons]at hfs
     have hx:(tM T.d t i).natAbs<256 ^ K:=hbd _ _
     repeat' first|apply jS|apply jD|apply jN|apply jT|refine Q2 ?_|refine Q7 ?_|refine Zp (h:=?_)|refine Zv (h:=?_)|refine YQ (h:=?_)|refine YJ (h:=?_)|refine Q3 ?_|(refine Qg (h1:=?_) (h2:=?_)<;>intro hc<;>try omega)|apply jK|refine Q5 rfl ?_|apply jB
     all_goals first
      | (exfalso;omega)
      | skip
     refine Q9 au rfl aF rfl (fun w _ hs=>Q6t K w b W m n t s T S (tM T.d t i) hW ((show HSub (aK b W m n t s T) _ by exact HSub.skip (HSub.skip (HSub.skip (HSub.skip (HSub.refl _))))).aV hs) hm hn bK cZ hK hx hb.d) fun w v w' _ _ _ hR=>?_
     unfold dvV at hR
     rw[if_neg hlv]at hR
     subst hR
     repeat' first|apply jS|apply jD|apply jN|refine Q1 ?_|refine Q2 ?_|refine Q0 ?_|refine Q7 ?_|refine Zp (h:=?_)|refine Zv (h:=?_)|refine YJ (h:=?_)|refine Q3 ?_|refine Qu (h:=?_)|refine Q6 ?_|refine Qh fun _=>?_|refine Q6 ?_|apply jT
     rename_i bq
     refine Qa9 rfl rfl rfl (hTd.row (i:=t) oq).rd oq ?_
     skip
     refine Qjl rfl rfl rfl rfl (hTd.row (i:=t) oq).rd ((Q4v (Q4u oq)).trans (by exact HSub.skip (HSub.skip (HSub.skip (HSub.skip (HSub.skip Qlo)))))) oq ?_
     have hdt:((tr' T.d t).getD i 0)=gE S.d t i:=hat t i
     rw[hdt]
     repeat' first|apply jN|refine Ya (h:=?_)|apply jT
     have hmg:decide (aS (gE S.d t i).natAbs≠[])=nzC S t i:=by exact decide_eq_decide.2 (not_congr (bF.trans Int.natAbs_eq_zero))
     rw[hmg]
     cases hnz:nzC S t i with
     | true =>
      rw[hnz]at hfs
      have hfs:jy S t n=some i:=hfs
      rw[hfs,hat]
      try dsimp only
      have hxs:(-(gE S.d t i / gE S.d t t)).natAbs<256 ^ K:=by
       rw[hat]at hx
       rw[Int.natAbs_neg]
       have:=XR (gE S.d t i) (gE S.d t t)
       omega
      generalize hqq : -(gE S.d t i / gE S.d t t)=q at hxs ⊢
      repeat' first|apply jS|apply jO|refine Yg (h:=?_)|refine Q5 rfl ?_
      refine Zw (l:=[(0,.func (.func 111) #[] #[.pointer (some ⟨b1,0,none⟩),.pointer (some ⟨bz,0,none⟩),.pointer (some ⟨b4,0,none⟩),.pointer (some ⟨bq,0,none⟩)])]) (cs:=#[.func (.func 111) #[] #[.pointer (some ⟨b1,0,none⟩),.pointer (some ⟨bz,0,none⟩),.pointer (some ⟨b4,0,none⟩),.pointer (some ⟨bq,0,none⟩)]]) rfl rfl rfl rfl ?_
      repeat' first|apply jN|apply jT|refine Q0 ?_|refine Q6 ?_|refine Q6 ?_|apply jV|apply jR|apply Qz|refine XF ?_
      exact Zg 3 rfl rfl rfl rfl (fun a w' st=>⟨Z3 hs st.kp (fun p hp=>st.hs.blk p (by exact Vc _ (Vc _ (Vc _ (Vc _ (Vc _ (hp))))))),111,inferInstance,#[],#[.pointer (some ⟨b1,0,none⟩),.pointer (some ⟨bz,0,none⟩),.pointer (some ⟨b4,0,none⟩),.pointer (some ⟨bq,0,none⟩)],[(b1,.cells #[.pointer (some ⟨b,0,none⟩)] 30),(bz,.cells #[nv i] 3),(b4,.cells #[nv t] 3),(bq,.cells #[.bool (decide (q<0)),sv (aS (q).natAbs)] 75)],rfl,newJ (H0:=aK b W m n t s T) st rfl (Wn QF),fun w2 h2=>Qm8 K w2 b1 bz b4 bq b W m n t s T S i t q hW hD h2 hlt cZ oq hxs hm hn hK hb⟩)
     | false =>
      rw[hnz]at hfs
      repeat' first|apply jS|apply jO|apply jN|apply jT|refine Q7 ?_|refine Qd ?_|refine Qh fun _=>?_|refine QO ?_|apply jK|refine Q4 rfl ?_|apply jW
      rename_i bn
      exact Q8 (i+1,bn) ⟨by dsimp only;omega,by dsimp only;omega,hfs⟩ aW aC QF
    ·rw[show n-i=0 by omega]at hfs
     have hfs:jy S t n=none:=hfs
     rw[hfs]
     try dsimp only
     repeat' first|apply jS|apply jO|apply jD|apply jN|apply jT|refine Q2 ?_|refine Q7 ?_|refine Q3 ?_|(refine Qg (h1:=?_) (h2:=?_)<;>intro hc<;>try omega)|refine Qh fun _=>?_|refine QO ?_|apply jU|apply jE|refine Q4 rfl ?_|apply Qc
     all_goals first
      | (exfalso;omega)
      | skip
     clear hfs hlt hti him
     rename_i b13
     refine JC.label ?_
     repeat' first|apply jS|apply jO|apply jN|apply jT|refine Q0 ?_|refine Q7 ?_|refine Qd ?_|apply jB
     refine Qn (ι:=Nat) ⟨fun z=>[(14,nv z),(13,.pointer (some ⟨b13,0,none⟩)),(4,.pointer (some ⟨b4,0,none⟩)),(3,.bool false),(2,.pointer (some ⟨b2,0,none⟩)),(1,.pointer (some ⟨b1,0,none⟩))],fun _=>[(b13,.cells #[iv (-1)] 3),(b4,.cells #[nv t] 3),(b2,.cells #[.nilFunc] 97),(b1,.cells #[.pointer (some ⟨b,0,none⟩)] 30)]++aK b W m n t s T,
      fun z=>t+1≤z∧z≤m∧Z7 S t m n=(List.range' z (m-z)).find? (Wd S t n),fun z=>m-z⟩ (t+1) ⟨by omega,by omega,rfl⟩ aC QF (fun i hi=>?_)
     obtain⟨hti,him,hsp⟩:=hi
     dsimp only at hti him hsp ⊢
     by_cases hlt:i<m
     ·rw[QS hlt,List.find?_cons]at hsp
      repeat' first|apply jS|apply jO|apply jD|apply jN|apply jT|refine Q1 ?_|refine Q2 ?_|refine Q7 ?_|refine Zv (h:=?_)|refine YJ (h:=?_)|refine Qd ?_|refine Q3 ?_|(refine Qg (h1:=?_) (h2:=?_)<;>intro hc<;>try omega)|apply jK|refine Q5 rfl ?_|apply jB
      all_goals first
       | (exfalso;omega)
       | skip
      refine Qhj (l:=t+1) (h':=n) rfl rfl rfl (hTd.row (i:=i) oq).rd rfl rfl (.inl rfl) rfl rfl (.inr ⟨rfl,rfl⟩) oq oq (fun v142 hv142 _=>?_)
      repeat' first|apply jN|apply jT|refine Q1 ?_|refine Zt (h:=?_)|apply jB
      refine Qn (ι:=Nat) ⟨fun z=>[(144,nv z),(143,nv (n-(t+1))),(142,v142),(14,nv i),(13,.pointer (some ⟨b13,0,none⟩)),(4,.pointer (some ⟨b4,0,none⟩)),(3,.bool false),(2,.pointer (some ⟨b2,0,none⟩)),(1,.pointer (some ⟨b1,0,none⟩))],fun _=>[(b13,.cells #[iv (-1)] 3),(b4,.cells #[nv t] 3),(b2,.cells #[.nilFunc] 97),(b1,.cells #[.pointer (some ⟨b,0,none⟩)] 30)]++aK b W m n t s T,
       fun z=>z≤n-(t+1)∧Wd S t n i=(List.range' (t+1+z) (n-(t+1+z))).any (Qms S t i),fun z=>n-(t+1)-z⟩ 0 ⟨by omega,rfl⟩ aC QF (fun q hq=>?_)
      obtain⟨hqn,hbr⟩:=hq
      dsimp only at hqn hbr ⊢
      by_cases hlq:q<n-(t+1)
      ·rw[QS oq,List.any_cons]at hbr
       have hx:(tM T.d i (t+1+q)).natAbs<256 ^ K:=hbd _ _
       repeat' first|apply jS|apply jO|apply jN|apply jT|refine QY (h:=?_)|(refine Qg (h1:=?_) (h2:=?_)<;>intro hc<;>try omega)|apply jK|refine Q5 rfl ?_|apply jB
       refine Y4 rfl rfl rfl rfl hv142 ((Q4v (Q4u oq)).trans (by exact HSub.skip (HSub.skip (HSub.skip (HSub.skip Qlo))))) hlq ?_
       have hxe:((List.drop (t+1) (tr' T.d i)).take (n-(t+1))).getD q 0=tM T.d i (t+1+q):=by
        unfold tM
        simp only[List.getD]
        rw[List.getElem?_take_of_lt hlq,List.getElem?_drop]
       rw[hxe]
       repeat' first|apply jS|apply jO|apply jN|refine Q7 ?_|refine Qm ?_|refine Q6 ?_|refine Qh fun _=>?_|refine Q6 ?_|apply jT
       rename_i b16
       refine Q9 au rfl aF rfl (fun w _ hs=>Q6t K w b W m n t s T S (tM T.d i (t+1+q)) hW ((show HSub (aK b W m n t s T) _ by exact HSub.skip (HSub.skip (HSub.skip (HSub.skip (HSub.skip (HSub.refl _)))))).aV hs) hm hn bK cZ hK hx hb.d) fun w v w' _ _ _ hR=>?_
       unfold dvV at hR
       rw[if_neg hlv,hat]at hR
       subst hR
       have hbe:decide (gQ (gE S.d i (t+1+q)) (gE S.d t t)≠0)=Qms S t i (t+1+q):=rfl
       rw[hbe]
       cases hba:Qms S t i (t+1+q)with
       | true =>
        rw[hba]at hbr
        have hbr:Wd S t n i=true:=hbr
        rw[hbr]at hsp
        have hsp:Z7 S t m n=some i:=hsp
        rw[hsp]
        try dsimp only
        repeat' first|apply jS|apply jO|apply jN|apply jT|refine Q1 ?_|refine Q0 ?_|refine Q7 ?_|refine Qu (h:=?_)|refine Q6 ?_|(refine Zs (h1:=?_) (h2:=?_)<;>intro hc<;>try omega)|refine Qh fun _=>?_|refine Yg (h:=?_)|refine Q6 ?_|refine QO ?_|apply jU|apply jE|refine Q5 rfl ?_|apply Qc|refine Qgh rfl ?_
        refine Zw (l:=[(0,.func (.func 113) #[] #[.pointer (some ⟨b1,0,none⟩),.pointer (some ⟨b4,0,none⟩),.pointer (some ⟨b13,0,none⟩)])]) (cs:=#[.func (.func 113) #[] #[.pointer (some ⟨b1,0,none⟩),.pointer (some ⟨b4,0,none⟩),.pointer (some ⟨b13,0,none⟩)]]) rfl rfl rfl rfl ?_
        repeat' first|apply jN|apply jT|refine Q0 ?_|refine Q6 ?_|refine Q6 ?_|apply jV|apply jR|refine XF ?_
        exact Zg 4 rfl rfl rfl rfl (fun a w' st=>⟨Z3 hs st.kp (fun p hp=>st.hs.blk p (by exact Vc _ (Vc _ (Vc _ (Vc _ (Vc _ (Vc _ (hp)))))))),113,inferInstance,#[],#[.pointer (some ⟨b1,0,none⟩),.pointer (some ⟨b4,0,none⟩),.pointer (some ⟨b13,0,none⟩)],[(b1,.cells #[.pointer (some ⟨b,0,none⟩)] 30),(b4,.cells #[nv t] 3),(b13,.cells #[nv i] 3)],rfl,newJ (H0:=aK b W m n t s T) st rfl (Wn QF),fun w2 h2=>Qm7 K w2 b1 b4 b13 b W m n t s T S t i hW hD h2 bK hlt oq hK1 hm hn hK hb⟩)
       | false =>
        rw[hba,Bool.false_or]at hbr
        repeat' first|apply jS|apply jO|apply jN|apply jT|refine Q1 ?_|refine Q0 ?_|refine Qd ?_|refine Qu (h:=?_)|refine Q6 ?_|refine Qh fun _=>?_|refine Q6 ?_|apply jK|refine Q4 rfl ?_|apply jW
        exact Q8 (q+1) ⟨by first|omega|(dsimp only;omega),hbr⟩ gY aC (by exact HSub.skip (HSub.skip (HSub.refl _)))
      ·rw[show n-(t+1+q)=0 by omega]at hbr
       have hbr:Wd S t n i=false:=hbr
       rw[hbr]at hsp
       repeat' first|apply jS|apply jO|apply jN|apply jT|refine Q1 ?_|refine Q0 ?_|refine Qd ?_|(refine Qg (h1:=?_) (h2:=?_)<;>intro hc<;>try omega)|apply jU|apply jE|refine Q4 rfl ?_|apply jW|apply Qc
       exact Q8 (i+1) ⟨by first|omega|(dsimp only;omega),by first|omega|(dsimp only;omega),hsp⟩ gY aC (HSub.refl _)
     ·rw[show m-i=0 by omega]at hsp
      have hsp:Z7 S t m n=none:=hsp
      rw[hsp]
      try dsimp only
      repeat' first|apply jS|apply jO|apply jN|apply jT|refine Q1 ?_|refine Q2 ?_|refine Q7 ?_|refine Q3 ?_|(refine Qg (h1:=?_) (h2:=?_)<;>intro hc<;>try omega)|(refine Zs (h1:=?_) (h2:=?_)<;>intro hc<;>try omega)|refine Yg (h:=?_)|apply jU|apply jK|apply jE|refine Q4 rfl ?_|apply Qc
      all_goals first
       | (exfalso;omega)
       | skip
      refine Zw (l:=[(0,.func (.func 114) #[.pointer (some ⟨b,0,none⟩)] #[])]) (cs:=#[.func (.func 114) #[.pointer (some ⟨b,0,none⟩)] #[]]) rfl rfl rfl rfl ?_
      repeat' first|apply jN|apply jT|refine Q0 ?_|refine Q6 ?_|refine Q6 ?_|apply jR|refine XF ?_
      exact Zg 2 rfl rfl rfl rfl (fun a w' st=>⟨Z3 hs st.kp (fun p hp=>st.hs.blk p (by exact Vc _ (Vc _ (Vc _ (Vc _ (hp)))))),114,inferInstance,#[.pointer (some ⟨b,0,none⟩)],#[],[],rfl,newJ (H0:=aK b W m n t s T) st rfl (Wn (by exact HSub.skip (HSub.skip (HSub.skip (HSub.skip (HSub.refl _)))))),fun w2 h2=>Qfy K w2 b W m n t s T S hW hD h2 hm hn bK cZ hK hb⟩)
 ·have hle:(Qv S t m n).2.2=false:=by simpa using hle
  have hst:dH m n t S=none:=by unfold dH;rw[if_pos hle]
  rw[hst,show iD (Qv S t m n)=iv (-1) by unfold iD;rw[hle];rfl,show iM (Qv S t m n)=iv (-1) by unfold iM;rw[hle];rfl]
  repeat' first|apply jS|apply jO|apply jN|apply jT|refine Q1 ?_|refine Q0 ?_|refine Q7 ?_|refine Qu (h:=?_)|refine Q6 ?_|(refine Qg (h1:=?_) (h2:=?_)<;>intro hc<;>try omega)|refine Qh fun _=>?_|refine Qhq (h:=?_)|refine Q6 ?_|refine QO ?_|apply jV|apply jR|refine Q5 rfl ?_|apply jB|apply Qz|refine XF ?_
  all_goals first
   | (exfalso;omega)
   | skip
  exact Zg 3 rfl rfl rfl rfl (fun a w' st=>⟨Z3 hs st.kp (fun p hp=>st.hs.blk p (by exact Vc _ (Vc _ (Vc _ (Vc _ (Vc _ hp)))))),rfl⟩)


section
variable {c:Cx} {Q:Exit→Act→World→Prop} {m:Mode} {F:ak} {H:aj} {r:List bT} {g:Option (Option Tmp × Bool)} {ns:Bool} {ty:TypeId} {x:Operand}
theorem Qho {A N B:aj} {f:FuncId} {args:Array Operand} {ats:Array TypeId} {vs:List Value} {first cap:Array Value} {R:World→Value→World→Prop} {dd:Option Tmp} [TF c.P f] (hH:H.Perm (A++(N++B))) (hm:m.aO ns r) (hd:Qw c.n dd=true) (hg:Qi F g=some true)
  (hx:ev F x=some (.func (.func f) first cap)) (ha:Zy F args.toList=some vs)
  (hc:∀ w,Kp c.M c.w0 w→aG H w→Calls c.P f (first++vs.toArray++cap) w (aQ fun v w'=>Kp (keys N) w w'∧R w v w'))
  (h:∀ w v w',Kp c.M c.w0 w→aG H w→Kp (keys N) w w'→R w v w'→∃ N',(keys N').Perm (keys N)∧(∀ p∈N',w'.heap[p.1]?=some p.2)∧JO c Q m.spent r (dN F dd v) (A++(N'++B))) :
  JO c Q m (⟨dd,.call ⟨.value x,args,ats⟩,ty,g,.seq,ns⟩::r) F H:=by
 refine⟨⟨hd,.inr ⟨hg,fun a w st hs=>?_⟩⟩⟩
 have hrun:(execOp a.eval ⟨dd,.call ⟨.value x,args,ats⟩,ty, "",#[],none⟩).run c.P w=.ok (.enter f (first++vs.toArray++cap)) w:=by
  show (do let d ← resolve a.eval ⟨.value x,args,ats⟩ ty;invoke d.target d.args).run c.P w=_
  have h1:args.map a.eval=vs.toArray:=by
   have:=Yv st.fr ha
   apply Array.ext'
   rw[Array.toList_map,this]
  have h0:(resolve a.eval ⟨.value x,args,ats⟩ ty).run c.P w=.ok { target:=.fn (.func f) cap,args:=first++vs.toArray } w:=by
   simp[resolve,h1,st.fr.ev hx,Deferred.ofValue]
  rw[Sem.run_bind,h0]
  simp only[Result.andThen_ok,invoke,TF.run]
 unfold Oper.wp bT.oper
 rw[hrun]
 refine Calls.mono (hc w st.kp st.hs) fun e w' he=>?_
 cases e with
 | panicked ch=>exact he.elim
 | outgrown=>exact he.elim
 | returned v =>
  obtain⟨hk,hR⟩:=he
  obtain⟨N',hkeys,hb,hj⟩:=h w v w' st.kp st.hs hk hR
  have hp:H.Perm ((A++B)++N):=hH.trans (QX A N B).symm
  have hnd:=(st.perm hp).hs.nd
  rw[Vj,List.nodup_append]at hnd
  obtain⟨st',hstep,hkk⟩:=ZV (N':=N') st hp (hkeys.nodup_iff.2 hnd.2.1) hb (fun k hk'=>.inl (hkeys.mem_iff.1 hk')) (fun k h1 h2=>hk.block k h1 h2) hk.size hk.os hk.tape hk.output
  refine⟨hstep,_,_,m.spent,(st'.perm (QX A N' B)).put v hd,fun k hk'=>hkk k ?_,Za hm,hj.h⟩
  obtain⟨q,hq,rfl⟩:=List.mem_map.1 hk'
  exact List.mem_map.2 ⟨q,(QX A N' B).mem_iff.2 hq,rfl⟩
end

section
variable {c:Cx} {Q:Exit→Act→World→Prop} {m:Mode} {F:ak} {H:aj} {r:List bT} {g:Option (Option Tmp × Bool)} {ns:Bool} {d:Tmp} {ty t t':TypeId} {x y:Operand}
theorem Q1s {p:Option Addr} (hu:c.P.underlying t=some (.pointer (c.P.pointee t))) (hd:Qw c.n (some d)=true) (hg:Qi F g=some true) (hx:ev F x=some (.pointer p)) (hy:ev F y=some (.pointer none))
  (h:JO c Q m r ((d,.bool p.isNone)::F) H):JO c Q m (⟨some d,.binOp .eql t x y t',ty,g,.bg,ns⟩::r) F H :=
 ZE hd hg (fun a w fr=>by
  have h1:=run_eql_pointer_nil (P:=c.P) w t p hu
  simp[execOp,fr.ev hx,fr.ev hy,eqGuard,h1]) h
theorem Qph {p:Option Addr} (hu:c.P.underlying t=some (.pointer (c.P.pointee t))) (hd:Qw c.n (some d)=true) (hg:Qi F g=some true) (hx:ev F x=some (.pointer p)) (hy:ev F y=some (.pointer none))
  (h:JO c Q m r ((d,.bool (!p.isNone))::F) H):JO c Q m (⟨some d,.binOp .neq t x y t',ty,g,.bg,ns⟩::r) F H :=
 ZE hd hg (fun a w fr=>by
  have h1:=run_neq_pointer_nil (P:=c.P) w t p hu
  simp[execOp,fr.ev hx,fr.ev hy,eqGuard,h1]) h
end

theorem Qh5 {m n t:Nat} {S:Sm} (h:dH m n t S=none):(Qv S t m n).2.2=false:=by
 unfold dH at h
 split at h
 ·assumption
 ·split at h
  ·cases h
  ·split at h
   ·cases h
   ·split at h
    ·cases h
    ·split at h<;>cases h
theorem Qhv {α:Type} (x y:α) (N T:List α):(x::y::(N++T)).Perm ((x::N)++((y::T)++[])):=by
 rw[Vh]
 exact(List.perm_middle.symm).cons x
theorem Qg0 (K:Nat) (w:World) (b:Nat) (W:WV) (m n t s k kk:Nat) (T:WT) (S:Sm) (hW:dB W m n T S) (hD:Dm m n S) (hs:aG (aK b W m n t s T) w) (hm:m≤200) (hn:n≤200) (bD:t≤m) (htn:t≤n) (hK1:1≤K) (hK:K≤4000000000) (hkk:k≤kk) (hkk0:kk<1099511627776) (hsk:s+k≤1099511627776) (hend:k=kk∨s+k=1099511627776)
  (hb:∀ j,j≤(aJ m n k t S).2.2→Ok K (aJ m n j t S).1) :
  Calls Tryz.prog 17 #[.pointer (some ⟨b,0,none⟩),nv kk] w (aQ fun v w'=>jl b W m n t s T ((aJ m n k t S).2.1:Nat) ((s+(aJ m n k t S).2.2:Nat):Int) (aJ m n k t S).1 w w'∧v=iv (if (Qv (aJ m n k t S).1 (aJ m n k t S).2.1 m n).2.2=true then 60 else 0)):=by
 have hM:=QK hs
 refine Qa [] (keys (aK b W m n t s T)) hM (aK b W m n t s T) Tryz.func17 rfl mixed (by kernel_rfl) Tryz.ntmps17 Tryz.results17 rfl hs (fun p hp=>List.mem_map.2 ⟨p,hp,rfl⟩) ?_
 simp only[toS,Qe,Qx,Qo,Qr,ay,Ql,Qy,aB]
 repeat' first|apply jS|apply jO|apply jN|refine Q1 ?_|refine Q0 ?_|apply jT
 refine Q1s (by kernel_rfl) rfl rfl rfl rfl ?_
 repeat' first|apply jN|apply jT|refine Q1 ?_|refine Qq ?_|(refine Qg (h1:=?_) (h2:=?_)<;>intro hc<;>try omega)|(refine QU (h1:=?_) (h2:=?_)<;>intro hc<;>try omega)|apply jK|refine Q4 rfl ?_|apply jB
 all_goals first
  | (exfalso;omega)
  | skip
 refine Qn (ι:=Nat × Nat × Sm × WV × WT) ⟨fun z=>[(1,nv (kk-z.1)),(0,.pointer (some ⟨b,0,none⟩))],fun z=>aK b z.2.2.2.1 m n z.2.1 ((s+z.1:Nat):Int) z.2.2.2.2,
  fun z=>z.1≤k∧Dm m n z.2.2.1∧dB z.2.2.2.1 m n z.2.2.2.2 z.2.2.1∧dY W z.2.2.2.1∧(keys (aK b z.2.2.2.1 m n z.2.1 ((s+z.1:Nat):Int) z.2.2.2.2)).Perm (keys (aK b W m n t s T))∧z.2.1≤m∧z.2.1≤n ∧
   aJ m n k t S=((aJ m n (k-z.1) z.2.1 z.2.2.1).1,(aJ m n (k-z.1) z.2.1 z.2.2.1).2.1,(aJ m n (k-z.1) z.2.1 z.2.2.1).2.2+z.1) ∧
   ∀ j,j≤(aJ m n (k-z.1) z.2.1 z.2.2.1).2.2→Ok K (aJ m n j z.2.1 z.2.2.1).1,fun z=>k-z.1⟩ (0,t,S,W,T) ⟨V8 _,hD,hW,dY.refl W,.refl _,bD,htn,rfl,hb⟩ aC (HSub.refl _) (fun z hz=>?_)
 obtain⟨i,t1,S1,W1,T1⟩:=z
 obtain⟨hik,hD1,hW1,hS1,hk1,eG,eU,hrun,hok⟩:=hz
 dsimp only at hik hD1 hW1 hS1 hk1 eG eU hrun hok ⊢
 have hb1:Ok K S1:=hok 0 (V8 _)
 have hres:∀ w',Kp (keys (aK b W m n t s T)) w w'→(∀ p∈aK b W1 m n t1 ((s+i:Nat):Int) T1,w'.heap[p.1]?=some p.2)→jl b W m n t s T t1 ((s+i:Nat):Int) S1 w w':=fun w' h1 h2=>⟨h1,W1,T1,hk1,h2,hW1,hS1⟩
 cases hst:dH m n t1 S1 with
 | none =>
  have hle:(Qv S1 t1 m n).2.2=false:=Qh5 hst
  repeat' first|apply jS|apply jO|refine Q1 ?_|apply jB
  refine Q9 au rfl aF rfl (fun w _ hs=>Qjy K w b W1 m n t1 _ T1 S1 hW1 hD1 hs hm hn eG eU hK1 hK hb1) fun w v w' _ _ _ hR=>?_
  rw[hst]at hR
  subst hR
  have hrn:aJ m n k t S=(S1,t1,i):=by rw[hrun,Q5w hle];dsimp only;rw[Vq]
  rw[hrn]
  dsimp only
  rw[hle]
  repeat' first|apply jS|apply jO|apply jN|apply jT|refine Q1 ?_|refine Q0 ?_|refine QG ?_|refine Qu (h:=?_)|refine Q6 ?_|refine Qh fun _=>?_|refine Q6 ?_|apply jV|apply jR|refine Q5 rfl ?_|apply jB|apply Qz
  exact Qj rfl (fun a w' st=>⟨hres w' st.kp (fun p hp=>st.hs.blk p (by exact Vc _ hp)),rfl⟩)
 | some r =>
  obtain⟨S2,t2⟩:=r
  have hle:(Qv S1 t1 m n).2.2=true:=by
   cases hq:(Qv S1 t1 m n).2.2 with
   | true=>rfl
   | false =>
    unfold dH at hst
    rw[if_pos hq]at hst
    cases hst
  unfold aK
  repeat' first|apply jS|apply jO|refine Q1 ?_|apply jB
  refine Qt (A:=[_]) (B:=(W1.Nu++(tH T1.u++(W1.dM++(tH T1.ui++(W1.Nd++(tH T1.d++(W1.Nv++(tH T1.v++(W1.dV++(tH T1.vi++[]))))))))))) rfl au rfl aF rfl (fun w _ hs=>Qjy K w b W1 m n t1 _ T1 S1 hW1 hD1 hs hm hn eG eU hK1 hK hb1) fun w v w' _ _ _ hR=>?_
  rw[hst]at hR
  obtain⟨f,hf,first,cap,N,rfl,hN,hcl⟩:=hR
  refine⟨N,hN,?_⟩
  clear hN
  by_cases hlt:i<k
  ·obtain⟨hrun2,hok2⟩:=YT hlt hrun hok hst
   obtain⟨hD2,gV,gW⟩:=Xl hD1 hst
   unfold dF
   repeat' first|apply jS|apply jO|apply jN|apply jT|refine Q1 ?_|refine Q2 ?_|refine Q0 ?_|refine Q7 ?_|refine Qq ?_|refine QG ?_|refine Q3 ?_|refine Qu (h:=?_)|refine Q6 ?_|(refine Zs (h1:=?_) (h2:=?_)<;>intro hc<;>try omega)|(refine Zm (h1:=?_) (h2:=?_)<;>intro hc<;>try omega)|refine Qh fun _=>?_|refine Q6 ?_|apply jK|refine Q4 rfl ?_|apply jB|apply jW
   all_goals first
    | (exfalso;omega)
    | skip
   rename_i b5 _
   refine Qho (A:=(b5,.cells #[.func (.func f) first cap] 97)::N) (N:=aK b W1 m n t1 ((s+i:Nat):Int) T1) (B:=[]) (R:=fun w _ w'=>jl b W1 m n t1 ((s+i:Nat):Int) T1 t2 ((s+i:Nat):Int) S2 w w') (by exact Qhv (b5,_) (b,_) N _) au rfl aF rfl rfl (fun w _ hs=>?_) (fun w1 v1 w2 _ _ _ hR=>?_)
   ·have h:=hcl w ((HSub.skip (Y5 (List.perm_middle.symm))).aV hs)
    exact Zk h fun v w' h=>⟨h.1,h⟩
   ·obtain⟨_,W2,T2,hk2,hin2,hW2,hS2⟩:=hR
    refine⟨aK b W2 m n t2 ((s+i:Nat):Int) T2,hk2,hin2,?_⟩
    repeat' first|apply jN
    refine JX.part (F':=[(1,nv (kk-i)),(0,.pointer (some ⟨b,0,none⟩))]) (H':=aK b W2 m n t2 ((s+i:Nat):Int) T2) aC (HSub.skip (Qf HSub.dJ)) ?_
    apply Zf
    unfold aK dF
    repeat' first|apply jS|apply jO|apply jN|apply jT|refine Q1 ?_|refine Q2 ?_|refine Q0 ?_|refine Q7 ?_|refine Qd ?_|refine Yf (h:=?_)|refine Q3 ?_|refine QO ?_|apply jW
    exact Q8 (i+1,t2,S2,W2,T2) ⟨hlt,hD2,hW2,hS1.trans hS2,(show (keys (aK b W2 m n t2 ((s+(i+1):Nat):Int) T2)).Perm _ from hk2).trans hk1,gV,gW,hrun2,hok2⟩ aW aC (HSub.refl _)
  ·obtain rfl:i=k:=by omega
   have hrn:aJ m n i t S=(S1,t1,i):=by rw[hrun,Nat.sub_self];show (S1,t1,0+i)=_;rw[Vq]
   rw[hrn]
   dsimp only
   rw[hle]
   by_cases hkk':i=kk
   ·subst hkk'
    rw[Nat.sub_self]
    unfold dF
    repeat' first|apply jS|apply jO|apply jN|apply jT|refine Q1 ?_|refine Q0 ?_|refine Qp ?_|refine QG ?_|refine Qu (h:=?_)|refine Q6 ?_|(refine Zm (h1:=?_) (h2:=?_)<;>intro hc<;>try omega)|refine Qh fun _=>?_|refine Q6 ?_|apply jV|apply jR|refine Q5 rfl ?_|refine Q4 rfl ?_|apply Qz|refine QA ?_|apply jB
    all_goals first
     | (exfalso;omega)
     | skip
    all_goals exact Qj rfl (fun a w' st=>⟨hres w' st.kp (fun p hp=>st.hs.blk p ((show HSub (aK b W1 m n t1 ((s+i:Nat):Int) T1) _ by exact HSub.skip (HSub.at 0 rfl (Qf (M:=N) (HSub.refl _)))).mem p hp)),rfl⟩)
   ·have hs9:s+i=1099511627776:=by omega
    unfold dF
    repeat' first|apply jS|apply jO|apply jN|apply jT|refine Q1 ?_|refine Q2 ?_|refine Q0 ?_|refine Q7 ?_|refine Qq ?_|refine QG ?_|refine Q3 ?_|refine Qu (h:=?_)|refine Q6 ?_|(refine Zs (h1:=?_) (h2:=?_)<;>intro hc<;>try omega)|(refine Zm (h1:=?_) (h2:=?_)<;>intro hc<;>try omega)|refine Qh fun _=>?_|refine Q6 ?_|apply jV|apply jR|refine Q5 rfl ?_|refine Q4 rfl ?_|apply jB|apply Qz
    all_goals first
     | (exfalso;omega)
     | skip
    all_goals exact Qj rfl (fun a w' st=>⟨hres w' st.kp (fun p hp=>st.hs.blk p ((show HSub (aK b W1 m n t1 ((s+i:Nat):Int) T1) _ by exact HSub.skip (HSub.at 0 rfl (Qf (M:=N) (HSub.refl _)))).mem p hp)),rfl⟩)

theorem Qok (K:Nat) (w:World) (b:Nat) (W:WV) (m n t s k:Nat) (T:WT) (S:Sm) (hW:dB W m n T S) (hD:Dm m n S) (hs:aG (aK b W m n t s T) w) (hm:m≤200) (hn:n≤200) (bD:t≤m) (htn:t≤n) (hK1:1≤K) (hK:K≤4000000000) (hsk:s+k<1099511627776)
  (hb:∀ j,j≤(aJ m n k t S).2.2→Ok K (aJ m n j t S).1) :
  Calls Tryz.prog 17 #[.pointer (some ⟨b,0,none⟩),nv k] w (aQ fun v w'=>jl b W m n t s T ((aJ m n k t S).2.1:Nat) ((s+(aJ m n k t S).2.2:Nat):Int) (aJ m n k t S).1 w w'∧v=iv (if (Qv (aJ m n k t S).1 (aJ m n k t S).2.1 m n).2.2=true then 60 else 0)) :=
 Qg0 K w b W m n t s k k T S hW hD hs hm hn bD htn hK1 hK (V7 k) oq oq (.inl rfl) hb


theorem YC (w:World) (v:Value) (m:ZM) (hm:gJ m) (hv:jw w v m) :
  Calls Tryz.prog 46 #[v] w (aQ fun v w'=>Kp [] w w'∧∃ N ts,New (N++tH ts) w w'∧cO N v m.c ts∧ts.map (·.2.2)=Ym m):=by
 obtain⟨E,rfl,hE⟩:=hv
 have hl:=hm.len
 have hle:=hm.le
 have hbr:=hm.r
 have hbc:=hm.c
 have hrc:m.r*m.c≤40000:=by rw[← hl];exact hle
 refine Qa [] [] aA [] Tryz.func46 rfl mixed (by kernel_rfl) Tryz.ntmps46 Tryz.results46 rfl ⟨by simp,by simp⟩ aA ?_
 simp only[toS,Qe,Qx,Qo,Qr,ay,Ql,Qy,aB]
 have hRE:=WZ.rd (c:=⟨Tryz.prog,28,w,[],by simp⟩) hE rfl []
 rw[hl]at hRE
 clear hE
 repeat' first|apply jS|apply jO|apply jN|apply jT|refine Q1 ?_|refine Q2 ?_|refine Q0 ?_|refine Q7 ?_|refine QM (h:=fun _=>?_)|apply jB
 rename_i b1
 refine Qn (ι:=Nat × Value × aj × List TR) ⟨fun z=>[(7,nv z.1),(6,nv m.r),(3,z.2.1),(1,.pointer (some ⟨b1,0,none⟩))],
  fun z=>[(b1,.cells #[nv m.r,nv m.c,E] 28)]++(z.2.2.1++(tH z.2.2.2++[])),
  fun z=>z.1≤m.r∧cO z.2.2.1 z.2.1 m.c z.2.2.2∧z.2.2.2.length=z.1∧z.2.2.2.map (·.2.2)=(List.range z.1).map (fA m),fun z=>m.r-z.1⟩
  (0,.slice none 0 0,[],[]) ⟨by omega,⟨aH.nil _ 1,fun t ht=>by cases ht⟩,rfl,rfl⟩ aC (HSub.at 0 rfl (HSub.nil _)) (fun z hz=>?_)
 obtain⟨k,v3,N,ts⟩:=z
 obtain⟨hkr,hT,hlen,hts⟩:=hz
 dsimp only at hkr hT hlen hts ⊢
 by_cases hlt:k<m.r
 ·have hk1:(k+1)*m.c≤m.r*m.c:=V1 _ oq
  have hk2:k*m.c≤m.r*m.c:=V1 _ oq
  repeat' first|apply jS|apply jO|apply jN|apply jT|refine Q1 ?_|refine Q2 ?_|refine Q0 ?_|refine Q7 ?_|refine Qd ?_|refine Z1 (h:=?_)|(refine Qg (h1:=?_) (h2:=?_)<;>intro hc<;>try omega)|apply jK|refine Q5 rfl ?_|apply jB
  refine Qnq rfl rfl rfl hRE rfl rfl hk1 (fun v26 hv26 _=>?_)
  skip
  refine Qt (A:=[_]) (B:=N++(tH ts++[])) rfl au rfl aF rfl (fun w hk hs=>Qiu w _ m.c (fA m k) (hv26.at hk hs (HSub.nil _)) oq) fun w v w' _ _ _ hR=>?_
  obtain⟨N2,eH,hO2⟩:=hR
  obtain⟨A2,c2,rfl⟩:=hO2.form
  refine⟨N2,eH,?_⟩
  repeat' first|refine QH (h:=fun _=>?_)|fail
  rename_i b24
  have hone:aH 26 1 [(b24,.cells #[.slice A2 m.c c2] 26)] (.slice (some ⟨b24,0,none⟩) 1 1) 1 [.slice A2 m.c c2]:=aH.mk' (e:=26) (sz:=1) (n:=1) (b:=b24) (cs:=#[.slice A2 m.c c2]) rfl (by simp only[maxLen];omega)
  refine X6 (e:=26) (sz:=1) (bytes:=24) (zc:=#[.slice none 0 0]) (A:=(b24,.cells #[.slice A2 m.c c2] 26)::(b1,.cells #[nv m.r,nv m.c,E] 28)::N2) (N:=N) (B:=tH ts++[]) (n:=ts.length) (mm:=1) (xs:=ts.map (·.2.1)) (news:=[.slice A2 m.c c2]) rfl hT.outer hone.rd Qb rfl au rfl rfl rfl rfl (fun u hu=>by cases List.mem_singleton.1 hu;rfl) (by simp only[maxLen];omega) oq (fun v4 N4 hO4=>?_)
  have hT4:cO N4 v4 m.c (ts++[(N2,.slice A2 m.c c2,fA m k)]):=⟨by simpa using hO4,fun t ht=>by
   rcases List.mem_append.1 ht with ht|ht
   ·exact hT.rows t ht
   ·cases List.mem_singleton.1 ht;exact hO2⟩
  repeat' first|apply jO|apply jN|apply jT|refine Q1 ?_|refine Q0 ?_|refine Qd ?_|apply jW
  refine Q8 (k+1,v4,N4,ts++[(N2,.slice A2 m.c c2,fA m k)]) ⟨by dsimp only;omega,hT4,by simp[hlen],by dsimp only;rw[Vj,hts,List.range_succ,Vj];rfl⟩ aW aC (HSub.skip (HSub.at 0 rfl ?_))
  have hp:(N2++(N4++tH ts)).Perm (N4++(tH ts++N2)):=by rw[← Vb N4];exact List.perm_append_comm
  exact⟨[],by simpa [Q78,Qnc] using hp⟩
 ·repeat' first|apply jS|apply jO|apply jN|apply jT|refine Q1 ?_|refine Q0 ?_|(refine Qg (h1:=?_) (h2:=?_)<;>intro hc<;>try omega)|apply jU|apply jE|apply jR|refine Q4 rfl ?_|apply Qc
  obtain rfl:k=m.r:=by omega
  exact Qj rfl (fun a w' st=>⟨st.kp,N,ts,st.bI rfl (by exact HSub.skip (by simpa using HSub.refl _)),hT,hts⟩)

theorem Q14 {A B H:aj} (h:HSub (A++B) H):HSub A H:=HSub.dJ.trans h
theorem Q7x {b m n:Nat} {t s:Int} {W:WV} {T:WT} (N:aj):HSub (aK b W m n t s T++N) ((b,.cells (dF W m n t s) 84)::(W.Nu++(tH T.u++(W.dM++(tH T.ui++(W.Nd++(tH T.d++(W.Nv++(tH T.v++(W.dV++(tH T.vi++(N++[])))))))))))):=Y5 (by
 unfold aK
 simp only[Vh,Vg,Vb]
 exact .refl _)
theorem Qim (w:World) (b:Nat) (W:WV) (m n:Nat) (t s:Int) (T:WT) (hs:aG (aK b W m n t s T) w) :
  Calls Tryz.prog 21 #[.pointer (some ⟨b,0,none⟩)] w (aQ fun v w'=>Kp [] w w'∧v=iv s):=by
 have hM:=QK hs
 refine Qa [] (keys (aK b W m n t s T)) hM (aK b W m n t s T) Tryz.func21 rfl mixed (by kernel_rfl) Tryz.ntmps21 Tryz.results21 rfl hs (fun p hp=>List.mem_map.2 ⟨p,hp,rfl⟩) ?_
 simp only[toS,Qe,Qx,Qo,Qr,ay,Ql,Qy,aB]
 unfold aK dF
 repeat' first|apply jS|apply jO|apply jN|refine Q1 ?_|refine Q0 ?_|apply jT
 refine Q1s (by kernel_rfl) rfl rfl rfl rfl ?_
 repeat' first|apply jS|apply jO|apply jN|apply jT|refine Q1 ?_|refine Q2 ?_|refine Q0 ?_|refine Q7 ?_|refine Q3 ?_|apply jK|apply jR|refine Q4 rfl ?_
 exact Qj rfl (fun a w' st=>⟨Z3 hs st.kp (fun p hp=>st.hs.blk p (by exact hp)),rfl⟩)

theorem Q6s (K:Nat) (w:World) (b:Nat) (W:WV) (m n t:Nat) (s:Int) (T:WT) (S:Sm) (hW:dB W m n T S) (hs:aG (aK b W m n t s T) w) (hm:m≤200) (hn:n≤200) (bD:t≤m) (htn:t≤n) (hK:K≤9000000000) (hb:gZ K S.d=true) :
  Calls Tryz.prog 18 #[.pointer (some ⟨b,0,none⟩)] w (aQ fun v w'=>Kp [] w w'∧∃ N E,v=.tuple #[E,nv t,.bool (!(Qv S t m n).2.2)]∧New N w w'∧aN N E t ((List.range t).map fun k=>gE S.d k k)):=by
 have hM:=QK hs
 have hld:=hW.d.len
 have hTd:=hW.d.T
 have hVd:∀ a,tv T.d a=tv T.d a:=fun _=>rfl
 have hat:=hW.d.at
 refine Qa [⟨9,2,[],[]⟩] (keys (aK b W m n t s T)) hM (aK b W m n t s T) Tryz.func18 rfl mixed (by kernel_rfl) Tryz.ntmps18 Tryz.results18 rfl hs (fun p hp=>List.mem_map.2 ⟨p,hp,rfl⟩) ?_
 simp only[toS,Qe,Qx,Qo,Qr,ay,Ql,Qy,aB]
 unfold aK dF
 repeat' first|apply jS|apply jO|apply jN|refine Q1 ?_|refine Q0 ?_|apply jT
 refine Q1s (by kernel_rfl) rfl rfl rfl rfl ?_
 repeat' first|apply jS|apply jO|apply jN|apply jT|refine Q1 ?_|refine Q2 ?_|refine Q7 ?_|refine Q3 ?_|apply jK|refine Q4 rfl ?_|apply jB
 refine Qn (ι:=Nat × aj × Value) ⟨fun z=>[(14,nv z.1),(13,nv t),(2,z.2.2),(0,.pointer (some ⟨b,0,none⟩))],fun z=>(b,.cells (dF W m n t s) 84)::(W.Nu++(tH T.u++(W.dM++(tH T.ui++(W.Nd++(tH T.d++(W.Nv++(tH T.v++(W.dV++(tH T.vi++(z.2.1++[]))))))))))),
  fun z=>z.1≤t∧aN z.2.1 z.2.2 z.1 ((List.range z.1).map fun k=>gE S.d k k),fun z=>t-z.1⟩ (0,[],.slice none 0 0) ⟨V8 _,aN.nil⟩ aC (HSub.refl _) (fun z hz=>?_)
 obtain⟨k,N,v2⟩:=z
 obtain⟨hk,hO⟩:=hz
 dsimp only at hk hO ⊢
 by_cases hlt:k<t
 ·have hk1:k<m:=by omega
  have hk2:k<n:=by omega
  unfold dF
  repeat' first|apply jS|apply jO|apply jN|apply jT|refine Q1 ?_|refine Q2 ?_|refine Q0 ?_|refine Q7 ?_|refine Zp (h:=?_)|refine Zv (h:=?_)|refine YQ (h:=?_)|refine YJ (h:=?_)|refine Q3 ?_|(refine Qg (h1:=?_) (h2:=?_)<;>intro hc<;>try omega)|apply jK|refine Q5 rfl ?_|apply jB
  refine Wy (sz:=2) (vs:=[Wv (tM T.d k k)]) (cl:=[.bool (wz (tM T.d k k)).1,sv (wz (tM T.d k k)).2]) rfl rfl (by first|rfl|trivial|exact⟨rfl,rfl⟩) rfl rfl (fun v hv=>by
   cases List.mem_singleton.1 hv;rfl) rfl dq dq (fun b28=>?_)
  have h1:=Q2t b28 (tM T.d k k)
  skip
  refine Zi (A:=_::(b,.cells (dF W m n t s) 84)::(W.Nu++(tH T.u++(W.dM++(tH T.ui++(W.Nd++(tH T.d++(W.Nv++(tH T.v++(W.dV++tH T.vi)))))))))) (N:=N) (B:=[]) hO h1.rd Qb (by simp only[Vg,Vr,Vb];rfl) au rfl rfl rfl rfl oq (fun v' N' aX=>?_)
  simp only[Vg,Vr,Vb]
  rw[hat,show (List.map (fun k=>gE S.d k k) (List.range k))++[gE S.d k k]=List.map (fun k=>gE S.d k k) (List.range (k+1)) by rw[List.range_succ,Vj];rfl]at aX
  repeat' first|apply jO|apply jN|apply jT|refine Q1 ?_|refine Q0 ?_|refine Qd ?_|apply jW
  exact Q8 (k+1,N',v') ⟨by dsimp only;omega,aX⟩ aW aC (HSub.skip (HSub.refl _))
 ·obtain rfl:k=t:=by omega
  unfold dF
  repeat' first|apply jS|apply jO|apply jN|apply jT|refine Q1 ?_|(refine Qg (h1:=?_) (h2:=?_)<;>intro hc<;>try omega)|apply jU|apply jE|refine Q4 rfl ?_|apply Qc
  refine Q9 au rfl aF rfl (fun w _ hs=>Qbi K w b W m n k s T S hW (((Q14 (Q7x N)).aV hs)) hm hn bD htn hK hb) fun w v w' _ _ _ hR=>?_
  cases hfl:(Qv S k m n).2.2 with
  | true =>
   rw[show iD (Qv S k m n)=nv (Qv S k m n).1 by unfold iD;rw[hfl];rfl,show iM (Qv S k m n)=nv (Qv S k m n).2.1 by unfold iM;rw[hfl];rfl]at hR
   subst hR
   repeat' first|apply jS|apply jD|apply jN|apply jT|refine Q1 ?_|refine Q2 ?_|refine Q0 ?_|refine Q7 ?_|refine Q3 ?_|refine Qu (h:=?_)|(refine Qg (h1:=?_) (h2:=?_)<;>intro hc<;>try omega)|apply jR
   all_goals first
    | (exfalso;omega)
    | exact Yy [v2,nv k,.bool false] ⟨rfl,rfl,rfl,trivial⟩ (fun a w' st=>⟨Z3 hs st.kp (fun p hp=>st.hs.blk p ((Q14 (Q7x N)).mem p hp)),N,v2,rfl,newJ (H0:=aK b W m n k s T) st rfl (Q7x N),hO⟩)
  | false =>
   rw[show iD (Qv S k m n)=iv (-1) by unfold iD;rw[hfl];rfl,show iM (Qv S k m n)=iv (-1) by unfold iM;rw[hfl];rfl]at hR
   subst hR
   repeat' first|apply jS|apply jD|apply jN|apply jT|refine Q1 ?_|refine Q2 ?_|refine Q0 ?_|refine Q7 ?_|refine Q3 ?_|refine Qu (h:=?_)|(refine Qg (h1:=?_) (h2:=?_)<;>intro hc<;>try omega)|apply jR
   all_goals first
    | (exfalso;omega)
    | exact Yy [v2,nv k,.bool true] ⟨rfl,rfl,rfl,trivial⟩ (fun a w' st=>⟨Z3 hs st.kp (fun p hp=>st.hs.blk p ((Q14 (Q7x N)).mem p hp)),N,v2,rfl,newJ (H0:=aK b W m n k s T) st rfl (Q7x N),hO⟩)


theorem Q1m {m:ZM} (hm:gJ m):Rec m.r m.c (Ym m):=⟨by simp[Ym],fun x hx=>by
 unfold Ym at hx
 obtain⟨i,hi,rfl⟩:=List.mem_map.1 hx
 exact Q0u hm (List.mem_range.1 hi)⟩
theorem Qhw {x b4 b3 b1 Nu tu Ni ti Nd td Nx tx Nj tj Nn Nm:aj} :
  (x++(b4++(b3++(b1++((Nj++tj)++((Nx++tx)++((Nd++td)++((Ni++ti)++((Nu++tu)++(Nn++(Nm++[]))))))))))).Perm
  ((x++(Nu++(tu++(Ni++(ti++(Nd++(td++(Nx++(tx++(Nj++(tj++[])))))))))))++(b4++(b3++(b1++(Nn++Nm))))):=by
 classical
 rw[List.perm_iff_count]
 intro x
 simp only[List.count_append,List.count_nil]
 omega
theorem Qol (w:World) (v:Value) (a:ZM) (ha:gJ a) (hv:jw w v a) :
  Calls Tryz.prog 15 #[v] w (aQ fun v w'=>Kp [] w w'∧∃ b W T,v=.pointer (some ⟨b,0,none⟩)∧New (aK b W a.r a.c 0 0 T) w w'∧dB W a.r a.c T (WK a.r a.c (Ym a))):=by
 have hv0:=hv
 obtain⟨E,rfl,hE⟩:=hv
 have hle:=ha.le
 have hr:=ha.r
 have hac:=ha.c
 refine Qa [⟨3,1,[0,1,3,4,2,5,6,7,8,9],[]⟩,⟨4,1,[0,1,2,3,4,6,8,10,12,5,7,9,11,13,14,15,16],[]⟩] [] aA [] Tryz.func15 rfl mixed (by kernel_rfl) Tryz.ntmps15 Tryz.results15 rfl ⟨by simp,by simp⟩ aA ?_
 simp only[toS,Qe,Qx,Qo,Qr,ay,Ql,Qy,aB]
 repeat' first|apply jS|apply jO|apply jN|refine Q0 ?_|refine Qm ?_|refine QM (h:=fun _=>?_)|apply jT
 rename_i b1
 refine Q9 au rfl aF rfl (fun w hk hs=>Q24 w _ a.xm (hv0.mono hk).x (by show (a.e.map wz).length<_;rw[List.length_map];omega)) fun w v w' _ _ _ hR=>?_
 obtain⟨t,rfl,ht⟩:=hR
 obtain rfl:t=true:=ht.2 ha.rx
 repeat' first|apply jS|apply jD|apply jN|apply jT|refine Q2 ?_|refine Q7 ?_|refine QG ?_|apply jK|refine Q4 rfl ?_
 refine Qt (A:=[_]) (B:=[]) rfl au rfl aF rfl (fun w hk hs=>Qmi a.r hr w) fun w v w' _ _ _ hR=>?_
 obtain⟨Nm,hNm,Em,rfl,hOm⟩:=hR
 obtain⟨Am,cm,rfl⟩:=hOm.form
 refine⟨Nm,hNm,?_⟩
 skip
 refine Qt (A:=[_]) (B:=Nm++[]) rfl au rfl aF rfl (fun w hk hs=>Qmi a.c hac w) fun w v w' _ _ _ hR=>?_
 obtain⟨Nn,hNn,En,rfl,hOn⟩:=hR
 obtain⟨An,cn,rfl⟩:=hOn.form
 refine⟨Nn,hNn,?_⟩
 repeat' first|refine Q6 ?_|refine Q3k (k:=_) (h:=?_)|refine Qh fun _=>?_|refine Q6 ?_|apply jN
 rename_i b3 b4
 refine JX.part (F':=[(4,.pointer (some ⟨b4,0,none⟩)),(3,.pointer (some ⟨b3,0,none⟩)),(1,.pointer (some ⟨b1,0,none⟩))])
  (H':=[(b4,.cells #[nv a.c,nv a.c,.slice An (fF a.c).e.length cn] 28),(b3,.cells #[nv a.r,nv a.r,.slice Am (fF a.r).e.length cm] 28),(b1,.cells #[nv a.r,nv a.c,E] 28)]++(Nn++(Nm++[]))) aC QF ?_
 apply Zf
 repeat' first|apply jS|refine Q2 ?_|refine Q7 ?_|refine Qm ?_|apply jD
 refine Qt (A:=[_,_,_]) (B:=Nn++(Nm++[])) rfl au rfl aF rfl (fun w hk hs=>YC w _ (fF a.r) (XZ hr hr) ⟨_,rfl,hOm.rd.at hk hs Qb⟩) fun w v w' _ _ _ hR=>?_
 obtain⟨Nu,tu,hNu,hTu,hLu⟩:=hR
 obtain⟨Au,cu,rfl⟩:=hTu.form
 refine⟨Nu++tH tu,hNu,?_⟩
 clear hNu
 skip
 refine Qt (A:=[_,_,_]) (B:=(Nu++tH tu)++(Nn++(Nm++[]))) rfl au rfl aF rfl (fun w hk hs=>YC w _ (fF a.r) (XZ hr hr) ⟨_,rfl,hOm.rd.at hk hs Qb⟩) fun w v w' _ _ _ hR=>?_
 obtain⟨Ni,ti,hNi,hTi,hLi⟩:=hR
 obtain⟨Ai,ci,rfl⟩:=hTi.form
 refine⟨Ni++tH ti,hNi,?_⟩
 clear hNi
 skip
 refine Qt (A:=[_,_,_]) (B:=(Ni++tH ti)++((Nu++tH tu)++(Nn++(Nm++[])))) rfl au rfl aF rfl (fun w hk hs=>YC w _ a ha (hv0.mono hk)) fun w v w' _ _ _ hR=>?_
 obtain⟨Nd,td,hNd,hTd,hLd⟩:=hR
 obtain⟨Ad,cd,rfl⟩:=hTd.form
 refine⟨Nd++tH td,hNd,?_⟩
 clear hNd
 skip
 refine Qt (A:=[_,_,_]) (B:=(Nd++tH td)++((Ni++tH ti)++((Nu++tH tu)++(Nn++(Nm++[]))))) rfl au rfl aF rfl (fun w hk hs=>YC w _ (fF a.c) (XZ hac hac) ⟨_,rfl,hOn.rd.at hk hs Qb⟩) fun w v w' _ _ _ hR=>?_
 obtain⟨Nx,tx,hNx,hTx,hLx⟩:=hR
 obtain⟨Ax,cx,rfl⟩:=hTx.form
 refine⟨Nx++tH tx,hNx,?_⟩
 clear hNx
 skip
 refine Qt (A:=[_,_,_]) (B:=(Nx++tH tx)++((Nd++tH td)++((Ni++tH ti)++((Nu++tH tu)++(Nn++(Nm++[])))))) rfl au rfl aF rfl (fun w hk hs=>YC w _ (fF a.c) (XZ hac hac) ⟨_,rfl,hOn.rd.at hk hs Qb⟩) fun w v w' _ _ _ hR=>?_
 obtain⟨Nj,tj,hNj,hTj,hLj⟩:=hR
 obtain⟨Aj,cj,rfl⟩:=hTj.form
 refine⟨Nj++tH tj,hNj,?_⟩
 clear hNj
 skip
 obtain⟨W,hWd⟩:∃ W:WV,W=⟨.slice Au tu.length cu,.slice Ai ti.length ci,.slice Ad td.length cd,.slice Ax tx.length cx,.slice Aj tj.length cj,Nu,Ni,Nd,Nx,Nj⟩:=⟨_,rfl⟩
 obtain⟨T,hTd'⟩:∃ T:WT,T=⟨tu,ti,td,tx,tj⟩:=⟨_,rfl⟩
 have hW:dB W a.r a.c T (WK a.r a.c (Ym a)):=by
  subst hWd hTd'
  have hln:∀ {n:Nat} {g:Nat→List Int} {ts:List TR},ts.map (·.2.2)=(List.range n).map g→ts.length=n:=fun h=>by simpa using congrArg List.length h
  refine⟨⟨hTu,hln hLu,hLu.trans (Ww hr)⟩,?_,⟨hTd,hln hLd,hLd⟩,?_,⟨hTj,hln hLj,hLj.trans (Ww hac)⟩⟩
  ·show dP Ni _ a.r a.r ti (iG a.r a.r (fP a.r))
   rw[Qd9]
   exact⟨hTi,hln hLi,hLi.trans (Ww hr)⟩
  ·show dP Nx _ a.c a.c tx (iG a.c a.c (fP a.c))
   rw[Qd9]
   exact⟨hTx,hln hLx,hLx.trans (Ww hac)⟩
 refine Zw (l:=[(0,nv a.r),(1,nv a.c),(2,.slice Au tu.length cu),(3,.slice Ai ti.length ci),(4,.slice Ad td.length cd),(5,.slice Ax tx.length cx),(6,.slice Aj tj.length cj)]) (cs:=#[nv a.r,nv a.c,.slice Au tu.length cu,.slice Ai ti.length ci,.slice Ad td.length cd,.slice Ax tx.length cx,.slice Aj tj.length cj,iv 0,iv 0]) rfl rfl rfl (by kernel_rfl) ?_
 refine QM rfl rfl rfl rfl (fun b9=>?_)
 repeat' first|apply jN|apply jT|refine Q0 ?_|apply jR
 refine Qj rfl (fun a' w' st=>⟨st.kp,b9,W,T,rfl,st.bI rfl ?_,hW⟩)
 subst hWd hTd'
 exact⟨_,Qhw (x:=[_]) (b4:=[_]) (b3:=[_]) (b1:=[_])⟩


theorem Qf5 {r c i j:Nat} {g:List (List Int)} (h:Rec r c g) (hi:i<r) (hj:j<c):(gM r c g).at i j=gE g i j:=by
 show enz c g.flatten i j=_
 rw[← Zj h]
 exact Q1y hi hj
theorem Qj8 {r c:Nat} {g:List (List Int)} (h:Rec r c g):trZ (gM c r (iG r c g))=gM r c g:=by
 have e:(trZ (gM c r (iG r c g))).e=(gM r c g).e:=by
  show bP r c (tr (gM c r (iG r c g)).at)=g.flatten
  rw[← Zj h]
  refine Qk fun i j hi hj=>?_
  show (gM c r (iG r c g)).at j i=_
  rw[Qf5 (Y2 r c g) hj hi,Wg hi hj]
 show ZM.mk r c (trZ (gM c r (iG r c g))).e=ZM.mk r c (gM r c g).e
 rw[e]

theorem Q8d (w:World) (v:Value) (r c:Nat) (g:List (List Int)) (hv:IsG w v r c g) (hg:Rec r c g) (hr:r≤200) (hc:c≤200) :
  Calls Tryz.prog 117 #[nv r,nv c,v] w (aQ fun u w'=>Kp [] w w'∧Q5h (gM r c g) w u w'):=by
 refine Qa [] [] aA [] Tryz.func117 rfl mixed (by kernel_rfl) Tryz.ntmps117 Tryz.results117 rfl ⟨by simp,by simp⟩ aA ?_
 simp only[toS,Qe,Qx,Qo,Qr,ay,Ql,Qy,aB]
 repeat' first|apply jS|apply jO|apply jN|refine Q1 ?_|refine Qh fun _=>?_|apply jT
 rename_i b6
 refine Qt (A:=[_]) (B:=[]) rfl au rfl aF rfl (fun w hk hs=>Qit w v r c g (hv.mono hk) hr hc) fun w v6 w' _ _ _ hR6=>?_
 obtain⟨N,hN,hO⟩:=hR6
 obtain⟨A6,c6,rfl⟩:=hO.form
 refine⟨N,hN,?_⟩
 skip
 refine Zw (l:=[(0,nv r),(1,nv c),(2,.slice A6 (r*c) c6)]) (cs:=#[nv r,nv c,.slice A6 (r*c) c6]) rfl rfl rfl rfl ?_
 repeat' first|apply jN|apply jT|refine Q6 ?_|refine Q6 ?_|apply jR
 exact Z0 0 rfl rfl rfl (fun a w' st=>⟨st.kp,N,st.bI rfl Qb,gB.mk' hO⟩)

theorem Qei {b m n:Nat} {t s:Int} {W:WV} {T:WT} {x:Nat × Obj} {M1 M2 M3 M4 M5 M6 M7:aj}:HSub (aK b W m n t s T++(M1++(M3++(M4++(M6++M7))))) (x::(b,.cells (dF W m n t s) 84)::(M7++(M6++(M5++(M4++(M3++(M2++(M1++(W.Nu++(tH T.u++(W.dM++(tH T.ui++(W.Nd++(tH T.d++(W.Nv++(tH T.v++(W.dV++(tH T.vi++[])))))))))))))))))):=by
 refine⟨x::(M5++M2),?_⟩
 unfold aK
 classical
 rw[List.perm_iff_count]
 intro y
 simp only[List.count_append,List.count_cons,List.count_nil]
 omega
theorem Qbh (w:World) (b:Nat) (W:WV) (m n:Nat) (t s:Int) (T:WT) (S:Sm) (hW:dB W m n T S) (hD:Dm m n S) (hs:aG (aK b W m n t s T) w) (hm:m≤200) (hn:n≤200) :
  Calls Tryz.prog 52 #[.pointer (some ⟨b,0,none⟩)] w (aQ fun v w'=>Kp [] w w'∧Qp2 m n S w v w'):=by
 have hM:=QK hs
 refine Qa [⟨1,1,[],[]⟩,⟨2,1,[0,1,2,3,4,5,7,8,9,10,11,12,15,16,17,18,19,20,22,23,24,25,26,27,30,31,32,33,34,35,6,13,14,21,28,29,36,37,38],[]⟩] (keys (aK b W m n t s T)) hM (aK b W m n t s T) Tryz.func52 rfl mixed (by kernel_rfl) Tryz.ntmps52 Tryz.results52 rfl hs (fun p hp=>List.mem_map.2 ⟨p,hp,rfl⟩) ?_
 simp only[toS,Qe,Qx,Qo,Qr,ay,Ql,Qy,aB]
 unfold aK dF
 repeat' first|apply jS|apply jO|apply jD|apply jN|refine Q1 ?_|refine Q2 ?_|refine Q0 ?_|refine Q7 ?_|refine Q3 ?_|refine Qh fun _=>?_|apply jT
 rename_i b2
 refine Qt (A:=[_,_]) (B:=(W.Nu++(tH T.u++(W.dM++(tH T.ui++(W.Nd++(tH T.d++(W.Nv++(tH T.v++(W.dV++(tH T.vi++[]))))))))))) rfl au rfl aF rfl (fun w hk hs=>Q8d w _ m m (S.u) (hW.u.g hk hs Qb Qb) hW.u.rc hm hm) fun w v w' _ _ _ hR=>?_
 obtain⟨M1,hM1,E1,rfl,bG⟩:=hR
 obtain⟨A1,c1,rfl⟩:=bG.form
 refine⟨M1,hM1,?_⟩
 clear hM1
 skip
 refine Qt (A:=[_,_]) (B:=M1++((W.Nu++(tH T.u++(W.dM++(tH T.ui++(W.Nd++(tH T.d++(W.Nv++(tH T.v++(W.dV++(tH T.vi++[])))))))))))) rfl au rfl aF rfl (fun w hk hs=>Q8d w _ m m (iG m m S.ui) (hW.ui.g hk hs Qb Qb) hW.ui.rc hm hm) fun w v w' _ _ _ hR=>?_
 obtain⟨M2,hM2,E2,rfl,hO2⟩:=hR
 obtain⟨A2,c2,rfl⟩:=hO2.form
 refine⟨M2,hM2,?_⟩
 clear hM2
 skip
 refine Qt (A:=[_,_]) (B:=M2++(M1++((W.Nu++(tH T.u++(W.dM++(tH T.ui++(W.Nd++(tH T.d++(W.Nv++(tH T.v++(W.dV++(tH T.vi++[]))))))))))))) rfl au rfl aF rfl (fun w hk hs=>XX w _ (gM m m (iG m m S.ui)) (Wo (Y2 _ _ _) hm hm) ⟨_,rfl,hO2.rd.at hk hs Qb⟩) fun w v w' _ _ _ hR=>?_
 obtain⟨M3,hM3,E3,rfl,hO3⟩:=hR
 obtain⟨A3,c3,rfl⟩:=hO3.form
 refine⟨M3,hM3,?_⟩
 clear hM3
 skip
 refine Qt (A:=[_,_]) (B:=M3++(M2++(M1++((W.Nu++(tH T.u++(W.dM++(tH T.ui++(W.Nd++(tH T.d++(W.Nv++(tH T.v++(W.dV++(tH T.vi++[])))))))))))))) rfl au rfl aF rfl (fun w hk hs=>Q8d w _ m n (S.d) (hW.d.g hk hs Qb Qb) hW.d.rc hm hn) fun w v w' _ _ _ hR=>?_
 obtain⟨M4,hM4,E4,rfl,hO4⟩:=hR
 obtain⟨A4,c4,rfl⟩:=hO4.form
 refine⟨M4,hM4,?_⟩
 clear hM4
 skip
 refine Qt (A:=[_,_]) (B:=M4++(M3++(M2++(M1++((W.Nu++(tH T.u++(W.dM++(tH T.ui++(W.Nd++(tH T.d++(W.Nv++(tH T.v++(W.dV++(tH T.vi++[]))))))))))))))) rfl au rfl aF rfl (fun w hk hs=>Q8d w _ n n (iG n n S.v) (hW.v.g hk hs Qb Qb) hW.v.rc hn hn) fun w v w' _ _ _ hR=>?_
 obtain⟨M5,hM5,E5,rfl,iy⟩:=hR
 obtain⟨A5,c5,rfl⟩:=iy.form
 refine⟨M5,hM5,?_⟩
 clear hM5
 skip
 refine Qt (A:=[_,_]) (B:=M5++(M4++(M3++(M2++(M1++((W.Nu++(tH T.u++(W.dM++(tH T.ui++(W.Nd++(tH T.d++(W.Nv++(tH T.v++(W.dV++(tH T.vi++[])))))))))))))))) rfl au rfl aF rfl (fun w hk hs=>XX w _ (gM n n (iG n n S.v)) (Wo (Y2 _ _ _) hn hn) ⟨_,rfl,iy.rd.at hk hs Qb⟩) fun w v w' _ _ _ hR=>?_
 obtain⟨M6,hM6,E6,rfl,hO6⟩:=hR
 obtain⟨A6,c6,rfl⟩:=hO6.form
 refine⟨M6,hM6,?_⟩
 clear hM6
 skip
 refine Qt (A:=[_,_]) (B:=M6++(M5++(M4++(M3++(M2++(M1++((W.Nu++(tH T.u++(W.dM++(tH T.ui++(W.Nd++(tH T.d++(W.Nv++(tH T.v++(W.dV++(tH T.vi++[]))))))))))))))))) rfl au rfl aF rfl (fun w hk hs=>Q8d w _ n n (S.vi) (hW.vi.g hk hs Qb Qb) hW.vi.rc hn hn) fun w v w' _ _ _ hR=>?_
 obtain⟨M7,hM7,E7,rfl,hO7⟩:=hR
 obtain⟨A7,c7,rfl⟩:=hO7.form
 refine⟨M7,hM7,?_⟩
 clear hM7
 skip
 rw[Qj8 hD.ui]at hO3 ⊢
 rw[Qj8 hD.v]at hO6 ⊢
 refine Zw (l:=[(0,.agg #[nv m,nv m,(.slice A1 (gM m m S.u).e.length c1)]),(1,.agg #[nv m,nv m,(.slice A3 (gM m m S.ui).e.length c3)]),(2,.agg #[nv m,nv n,(.slice A4 (gM m n S.d).e.length c4)]),(3,.agg #[nv n,nv n,(.slice A6 (gM n n S.v).e.length c6)]),(4,.agg #[nv n,nv n,(.slice A7 (gM n n S.vi).e.length c7)])]) (cs:=smC m n (.slice A1 (gM m m S.u).e.length c1) (.slice A3 (gM m m S.ui).e.length c3) (.slice A4 (gM m n S.d).e.length c4) (.slice A6 (gM n n S.v).e.length c6) (.slice A7 (gM n n S.vi).e.length c7)) rfl rfl rfl (by kernel_rfl) ?_
 repeat' first|apply jN|apply jT|refine Q6 ?_|refine Q6 ?_|apply jR
 exact Z0 0 rfl rfl rfl (fun a w' st=>⟨Z3 hs st.kp (fun p hp=>st.hs.blk p ((Q14 (Qei (x:=(b2,.cells (smC m n (.slice A1 (gM m m S.u).e.length c1) (.slice A3 (gM m m S.ui).e.length c3) (.slice A4 (gM m n S.d).e.length c4) (.slice A6 (gM n n S.v).e.length c6) (.slice A7 (gM n n S.vi).e.length c7)) 40)) (M5:=M5) (M2:=M2))).mem p hp)),M1,M3,M4,M6,M7,_,_,_,_,_,rfl,hD,newJ (H0:=aK b W m n t s T) st rfl (by exact Qei),Q7n hD.u bG,Q7n hD.ui hO3,Q7n hD.d hO4,Q7n hD.v hO6,Q7n hD.vi hO7⟩)

end Go.Proofs.YtbofgpenopcfaaaGreatDoor

namespace Go.Proofs.YtbofgpenopcfaaaGreatDoor
open Go Go.RowKit Go.Shelf
set_option linter.unusedSimpArgs false
set_option linter.unusedVariables false
set_option linter.unusedSectionVars false

def Qf0:Ren:=⟨fun i=>if i=156 then 78 else if i=165 then 141 else if i=166 then 142 else if i=169 then 143 else if i=240 then 170 else if i=241 then 171 else if i=276 then 195 else if i=277 then 196 else i,fun i=>if i=0 then 0 else if i=3 then 3 else if i=4 then 4 else if i=5 then 5 else if i=9 then 9 else if i=20 then 20 else if i=31 then 65 else if i=37 then 51 else if i=70 then 168 else if i=72 then 170 else if i=75 then 172 else if i=76 then 173 else if i=80 then 60 else if i=127 then 196 else if i=164 then 224 else i,fun i=>i⟩
theorem Qpm:Lays.n156 Tryz.prog Qf0 where
 mixed:=mixed
 f156:=by kernel_rfl
 f165:=by kernel_rfl
 f166:=by kernel_rfl
 f169:=by kernel_rfl
 f240:=by kernel_rfl
 f241:=by kernel_rfl
 f276:=by kernel_rfl
 f277:=by kernel_rfl
 t0:=by kernel_rfl
 a0:=fun _=>by kernel_rfl
 z0:=fun _=>by kernel_rfl
 v0:=fun _=>by kernel_rfl
 t3:=by kernel_rfl
 a3:=fun _=>by kernel_rfl
 z3:=fun _=>by kernel_rfl
 v3:=fun _=>by kernel_rfl
 t4:=by kernel_rfl
 a4:=fun _=>by kernel_rfl
 z4:=fun _=>by kernel_rfl
 v4:=fun _=>by kernel_rfl
 t9:=by kernel_rfl
 a9:=fun _=>by kernel_rfl
 z9:=fun _=>by kernel_rfl
 v9:=fun _=>by kernel_rfl
 t20:=by kernel_rfl
 a20:=fun _=>by kernel_rfl
 z20:=fun _=>by kernel_rfl
 v20:=fun _=>by kernel_rfl
 t31:=by kernel_rfl
 a31:=fun _=>by kernel_rfl
 z31:=fun _=>by kernel_rfl
 v31:=fun _=>by kernel_rfl
 t37:=by kernel_rfl
 a37:=fun _=>by kernel_rfl
 z37:=fun _=>by kernel_rfl
 v37:=fun _=>by kernel_rfl
 t70:=by kernel_rfl
 a70:=fun _=>by kernel_rfl
 z70:=fun _=>by kernel_rfl
 v70:=fun _=>by kernel_rfl
 t72:=by kernel_rfl
 a72:=fun _=>by kernel_rfl
 z72:=fun _=>by kernel_rfl
 v72:=fun _=>by kernel_rfl
 t75:=by kernel_rfl
 a75:=fun _=>by kernel_rfl
 z75:=fun _=>by kernel_rfl
 v75:=fun _=>by kernel_rfl
 t76:=by kernel_rfl
 a76:=fun _=>by kernel_rfl
 z76:=fun _=>by kernel_rfl
 v76:=fun _=>by kernel_rfl
 t127:=by kernel_rfl
 a127:=fun _=>by kernel_rfl
 z127:=fun _=>by kernel_rfl
 v127:=fun _=>by kernel_rfl
 t164:=by kernel_rfl
 a164:=fun _=>by kernel_rfl
 z164:=fun _=>by kernel_rfl
 v164:=fun _=>by kernel_rfl

def Qf1:Ren:=⟨fun i=>if i=129 then 207 else if i=171 then 76 else if i=243 then 139 else if i=246 then 169 else if i=283 then 191 else if i=284 then 192 else if i=285 then 193 else if i=286 then 194 else if i=317 then 206 else if i=318 then 208 else if i=319 then 209 else if i=320 then 210 else if i=337 then 214 else if i=338 then 215 else i,fun i=>if i=0 then 0 else if i=2 then 2 else if i=3 then 3 else if i=4 then 4 else if i=5 then 5 else if i=9 then 9 else if i=20 then 20 else if i=37 then 51 else if i=46 then 179 else if i=51 then 232 else if i=53 then 126 else if i=171 then 219 else if i=173 then 222 else if i=212 then 231 else if i=213 then 233 else if i=232 then 244 else if i=233 then 245 else i,fun i=>if i=17 then 1 else if i=18 then 4 else if i=19 then 5 else i⟩
theorem Qo6:Lays.n171 Tryz.prog Qf1 where
 mixed:=mixed
 f129:=by kernel_rfl
 f171:=by kernel_rfl
 f243:=by kernel_rfl
 f246:=by kernel_rfl
 f283:=by kernel_rfl
 f284:=by kernel_rfl
 f285:=by kernel_rfl
 f286:=by kernel_rfl
 f317:=by kernel_rfl
 f318:=by kernel_rfl
 f319:=by kernel_rfl
 f320:=by kernel_rfl
 f337:=by kernel_rfl
 f338:=by kernel_rfl
 t0:=by kernel_rfl
 a0:=fun _=>by kernel_rfl
 z0:=fun _=>by kernel_rfl
 v0:=fun _=>by kernel_rfl
 t2:=by kernel_rfl
 a2:=fun _=>by kernel_rfl
 z2:=fun _=>by kernel_rfl
 v2:=fun _=>by kernel_rfl
 t3:=by kernel_rfl
 a3:=fun _=>by kernel_rfl
 z3:=fun _=>by kernel_rfl
 v3:=fun _=>by kernel_rfl
 t4:=by kernel_rfl
 a4:=fun _=>by kernel_rfl
 z4:=fun _=>by kernel_rfl
 v4:=fun _=>by kernel_rfl
 t5:=by kernel_rfl
 a5:=fun _=>by kernel_rfl
 z5:=fun _=>by kernel_rfl
 v5:=fun _=>by kernel_rfl
 t9:=by kernel_rfl
 a9:=fun _=>by kernel_rfl
 z9:=fun _=>by kernel_rfl
 v9:=fun _=>by kernel_rfl
 t20:=by kernel_rfl
 a20:=fun _=>by kernel_rfl
 z20:=fun _=>by kernel_rfl
 v20:=fun _=>by kernel_rfl
 t37:=by kernel_rfl
 a37:=fun _=>by kernel_rfl
 z37:=fun _=>by kernel_rfl
 v37:=fun _=>by kernel_rfl
 t46:=by kernel_rfl
 a46:=fun _=>by kernel_rfl
 z46:=fun _=>by kernel_rfl
 v46:=fun _=>by kernel_rfl
 t51:=by kernel_rfl
 a51:=fun _=>by kernel_rfl
 z51:=fun _=>by kernel_rfl
 v51:=fun _=>by kernel_rfl
 t53:=by kernel_rfl
 a53:=fun _=>by kernel_rfl
 z53:=fun _=>by kernel_rfl
 v53:=fun _=>by kernel_rfl
 t171:=by kernel_rfl
 a171:=fun _=>by kernel_rfl
 z171:=fun _=>by kernel_rfl
 v171:=fun _=>by kernel_rfl
 t173:=by kernel_rfl
 a173:=fun _=>by kernel_rfl
 z173:=fun _=>by kernel_rfl
 v173:=fun _=>by kernel_rfl
 t212:=by kernel_rfl
 a212:=fun _=>by kernel_rfl
 z212:=fun _=>by kernel_rfl
 v212:=fun _=>by kernel_rfl
 t213:=by kernel_rfl
 a213:=fun _=>by kernel_rfl
 z213:=fun _=>by kernel_rfl
 t232:=by kernel_rfl
 a232:=fun _=>by kernel_rfl
 z232:=fun _=>by kernel_rfl
 v232:=fun _=>by kernel_rfl
 t233:=by kernel_rfl
 a233:=fun _=>by kernel_rfl
 z233:=fun _=>by kernel_rfl
 v233:=fun _=>by kernel_rfl
 g17:=by kernel_rfl
 g18:=by kernel_rfl
 g19:=by kernel_rfl

def splitRen:Ren:=⟨fun i=>if i=138 then 166 else if i=143 then 167 else if i=146 then 70 else if i=195 then 186 else if i=197 then 187 else if i=217 then 202 else if i=218 then 188 else if i=219 then 189 else if i=221 then 136 else if i=224 then 204 else if i=225 then 203 else if i=260 then 201 else if i=266 then 212 else if i=267 then 205 else if i=268 then 165 else if i=314 then 213 else i,fun i=>if i=0 then 0 else if i=3 then 3 else if i=4 then 4 else if i=5 then 5 else if i=9 then 9 else if i=21 then 21 else if i=31 then 65 else if i=46 then 179 else if i=51 then 232 else if i=105 then 215 else if i=119 then 236 else if i=138 then 238 else if i=139 then 239 else if i=146 then 240 else i,fun i=>if i=1 then 0 else if i=3 then 2 else if i=4 then 3 else i⟩
theorem Qng:Lays.n146 Tryz.prog splitRen where
 mixed:=mixed
 f138:=by kernel_rfl
 f143:=by kernel_rfl
 f146:=by kernel_rfl
 f195:=by kernel_rfl
 f197:=by kernel_rfl
 f217:=by kernel_rfl
 f218:=by kernel_rfl
 f219:=by kernel_rfl
 f221:=by kernel_rfl
 f224:=by kernel_rfl
 f225:=by kernel_rfl
 f260:=by kernel_rfl
 f266:=by kernel_rfl
 f267:=by kernel_rfl
 f268:=by kernel_rfl
 f314:=by kernel_rfl
 t0:=by kernel_rfl
 a0:=fun _=>by kernel_rfl
 z0:=fun _=>by kernel_rfl
 v0:=fun _=>by kernel_rfl
 t3:=by kernel_rfl
 a3:=fun _=>by kernel_rfl
 z3:=fun _=>by kernel_rfl
 v3:=fun _=>by kernel_rfl
 t4:=by kernel_rfl
 a4:=fun _=>by kernel_rfl
 z4:=fun _=>by kernel_rfl
 v4:=fun _=>by kernel_rfl
 t5:=by kernel_rfl
 a5:=fun _=>by kernel_rfl
 z5:=fun _=>by kernel_rfl
 v5:=fun _=>by kernel_rfl
 t9:=by kernel_rfl
 a9:=fun _=>by kernel_rfl
 z9:=fun _=>by kernel_rfl
 v9:=fun _=>by kernel_rfl
 t21:=by kernel_rfl
 a21:=fun _=>by kernel_rfl
 z21:=fun _=>by kernel_rfl
 v21:=fun _=>by kernel_rfl
 t31:=by kernel_rfl
 a31:=fun _=>by kernel_rfl
 z31:=fun _=>by kernel_rfl
 v31:=fun _=>by kernel_rfl
 t46:=by kernel_rfl
 a46:=fun _=>by kernel_rfl
 z46:=fun _=>by kernel_rfl
 v46:=fun _=>by kernel_rfl
 t51:=by kernel_rfl
 a51:=fun _=>by kernel_rfl
 z51:=fun _=>by kernel_rfl
 v51:=fun _=>by kernel_rfl
 t105:=by kernel_rfl
 a105:=fun _=>by kernel_rfl
 z105:=fun _=>by kernel_rfl
 v105:=fun _=>by kernel_rfl
 t119:=by kernel_rfl
 a119:=fun _=>by kernel_rfl
 z119:=fun _=>by kernel_rfl
 t138:=by kernel_rfl
 a138:=fun _=>by kernel_rfl
 z138:=fun _=>by kernel_rfl
 v138:=fun _=>by kernel_rfl
 t139:=by kernel_rfl
 a139:=fun _=>by kernel_rfl
 z139:=fun _=>by kernel_rfl
 v139:=fun _=>by kernel_rfl
 t146:=by kernel_rfl
 a146:=fun _=>by kernel_rfl
 z146:=fun _=>by kernel_rfl
 v146:=fun _=>by kernel_rfl
 g1:=by kernel_rfl
 g3:=by kernel_rfl
 g4:=by kernel_rfl

theorem Qpl:Builder.Extra Tryz.prog Qf0 where
 sizeBuilder:=by kernel_rfl
 liesBuilder:=by kernel_rfl
 t5:=by kernel_rfl
 a5:=fun _=>by kernel_rfl
 z5:=fun _=>by kernel_rfl
 v5:=fun _=>by kernel_rfl
 infoByte:=by kernel_rfl
 cellsByte:=by kernel_rfl
 sizeByte:=by kernel_rfl
 neB5:=by decide


theorem Qi9 {w w':World} (h:Below w.heap.size w w'):Kp [] w w':=⟨h.1,h.2,h.3,h.4,fun k hk _=>h.5 k hk⟩
theorem Qfk (u:Nat):Lib.decDigits u=tx (u:Int):=by
 have key:∀ u:Nat,0<u→Lib.decDigits u=(dec u).map UInt8.ofNat:=by
  intro u
  induction u using Nat.strongRecOn with
  | ind u ih =>
   intro h0
   rw[Lib.decDigits,XV h0,Vj]
   by_cases h:u<10
   ·rw[dif_pos h,show u / 10=0 by omega,show u % 10=u by omega]
    rfl
   ·rw[dif_neg h,ih (u / 10) oq oq]
    rfl
 unfold tx txt
 by_cases h:u=0
 ·subst h
  rw[Lib.decDigits]
  rfl
 ·rw[key u oq,if_neg oq,if_neg oq,Int.natAbs_natCast,Vr]
theorem Qml (w:World) (i:Nat) (hi:i<100) :
  Calls Tryz.prog 76 #[nv i] w (aQ fun v w'=>Kp [] w w'∧v=sv (tx (i:Int))) :=
 (Any.strconv_Itoa_small Qo6 i hi w).mono fun e w' he => by
  obtain⟨rfl,rfl⟩:=he
  exact⟨Kp.refl _ _,by rw[Qfk]⟩
theorem Qib (l:List Int):Lib.join (l.map tx) [32]=bU l:=by
 cases l with
 | nil=>rfl
 | cons x l =>
  rw[List.map_cons,Lib.join_cons]
  show _=tx x++dW l
  congr 1
  induction l with
  | nil=>rfl
  | cons y l ih =>
   show [32]++tx y++Lib.joinTail [32] (l.map tx)=32::(tx y++dW l)
   rw[ih]
   rfl
theorem Qk2 (w:World) (v:Value) (n:Nat) (l:List Int) (hv:jc w 1 v n (l.map fun x=>sv (tx x))) (hn0:0<n) (hn:n≤1000000) (hlen:(bU l).length≤281474976710656) :
  Calls Tryz.prog 78 #[v,.string ⟨#[32]⟩] w (aQ fun v w'=>Kp [] w w'∧v=sv (bU l)):=by
 obtain⟨hl,A,cap,rfl,hnc,h⟩:=hv
 obtain⟨⟨b,o,rfl⟩,hc⟩:=h hn0
 have hl:l.length=n:=by simpa using hl
 subst hl
 have hd:(l.map fun x=>(⟨(tx x).toArray⟩:ByteArray)).map (·.data.toList)=l.map tx:=by
  rw[List.map_map]
  refine List.map_congr_left fun x _=>?_
  rfl
 have hj:Lib.join ((l.map fun x=>(⟨(tx x).toArray⟩:ByteArray)).map (·.data.toList)) (⟨#[32]⟩:ByteArray).data.toList=bU l:=by
  rw[hd]
  exact Qib l
 have hb:b<w.heap.size:=by
  cases l with
  | nil=>exact absurd hn0 aA
  | cons x l=>exact Yt (hc 0 _ rfl)
 have h1:=Any.strings_Join_48 Qpm Qpl b o cap (l.map fun x=>(⟨(tx x).toArray⟩:ByteArray)) ⟨#[32]⟩ w (fun j x hx=>by
  rw[List.getElem?_map]at hx
  have h2:=hc j (.string x) (by
   rw[List.getElem?_map]
   cases hq:l[j]? with
   | none=>rw[hq]at hx;cases hx
   | some y=>rw[hq]at hx;cases hx;rfl)
  exact h2) hb (by rw[List.length_map];omega) (by rw[List.length_map];exact hnc) (by rw[hj];exact hlen)
 rw[hj,List.length_map]at h1
 exact h1.mono fun e w' he=>by
  obtain⟨rfl,hb⟩:=he
  exact⟨Qi9 hb,rfl⟩

set_option linter.unusedSimpArgs false
set_option linter.unusedVariables false
set_option linter.unusedSectionVars false

theorem Qg5 (w:World) (v:Value) (a:Int) (k:Nat) (hv:fD v a k) (hk:k≤10000000000) :
  Calls Tryz.prog 77 #[v] w (aQ fun v w'=>Kp [] w w'∧v=sv (tx a)):=by
 obtain⟨p,l,rfl,hl1,rfl⟩:=hv
 exact Qom w p l oq
section
variable {c:Cx} {Q:Exit→Act→World→Prop} {m:Mode} {F:ak} {H:aj} {r:List bT} {g:Option (Option Tmp × Bool)} {ns:Bool} {d:Tmp} {ty t:TypeId} {x y:Operand}
theorem Qe8 {len e j:Nat} {k:IntKind} {cs:Array Value} {u:Value} [TAr c.P t len e] [dS c.P e 1] [T1 c.P e] (hd:Qw c.n (some d)=true) (hg:Qi F g=some true) (hx:ev F x=some (.agg cs)) (hy:ev F y=some (.int k j)) (hj:j<len) (hu:cs[j]?=some u)
  (h:JO c Q m r ((d,u)::F) H):JO c Q m (⟨some d,.index t x y,ty,g,.bg,ns⟩::r) F H :=
 ZE hd hg (fun a w fr=>by
  have h1:(0:Int)≤j∧(j:Int)<len:=by omega
  simp only[execOp,fr.ev hx,fr.ev hy,Instr.index,asIntOf,Sem.run_bind,Sem.run_pure,Result.andThen_ok,run_underlying (TAr.und (P:=c.P) (t:=t)),h1,and_self,if_true,dS.size (e:=e) (n:=1),Int.toNat_natCast,Nat.mul_one,part,T1.agg,hu]
  simp) h
end
def fU (N:aj) (v:Value) (l:List Int):Prop:=aH 9 1 N v l.length (l.map fun x=>sv (tx x))
theorem fU.nil:fU [] (.slice none 0 0) []:=aH.nil _ 1
theorem Q1u (b:Nat) (u:Value):aH 9 1 [(b,.cells ⟨[u]⟩ 9)] (.slice (some ⟨b,0,none⟩) 1 1) 1 [u] :=
 aH.mk' (e:=9) (sz:=1) (n:=1) (b:=b) (cs:=⟨[u]⟩) aA (by simp only[maxLen];omega)
section
variable {c:Cx} {Q:Exit→Act→World→Prop} {m:Mode} {F:ak} {H:aj} {r:List bT} {g:Option (Option Tmp × Bool)} {ns:Bool} {d:Tmp} {ty t:TypeId} {x y:Operand} {N:aj} {v:Value}
theorem Q10 {A B N2:aj} {v2:Value} {l:List Int} {z:Int} [dh c.P t 9] [TE c.P 9 1 16 #[.string ⟨#[]⟩]] (hO:fU N v l) (h2:Rd c N2 1 v2 1 [sv (tx z)]) (eH:HSub N2 H) (hH:H=A++(N++B)) (hm:m.aO ns r) (hd:Qw c.n (some d)=true) (hg:Qi F g=some true) (hx:ev F x=some v) (hy:ev F y=some v2)
  (hb:l.length+1≤1000000000) (h:∀ v' N',fU N' v' (l++[z])→JO c Q m.spent r ((d,v')::F) (A++(N'++B))) :
  JO c Q m (⟨some d,.call ⟨.builtin .append,#[x,y],#[t,t]⟩,ty,g,.seq,ns⟩::r) F H :=
 X6 (e:=9) (sz:=1) (bytes:=16) (zc:=#[.string ⟨#[]⟩]) (n:=l.length) (mm:=1) rfl hO h2 eH hH hm hd hg hx hy (fun w hw=>by cases List.mem_singleton.1 hw;rfl) (by simp only[maxLen];omega) oq (fun v' N' h'=>h v' N' (by unfold fU;simpa using h'))
end

theorem Q54 (A B C:aj):(A++(B++C)).Perm (B++(A++C)):=by
 rw[← Vb, ← Vb]
 exact List.perm_append_comm.append_right _
theorem Q8c (K:Nat) (w:World) (b:Nat) (W:WV) (m n t s:Nat) (T:WT) (S:Sm) (hW:dB W m n T S) (hD:Dm m n S) (hs:aG (aK b W m n t s T) w) (hm:m<100) (hn:n<100) (ht:t<100) (hs0:s<100)
  (hK:8≤K) (hK2:K≤90000000) (hb:Ok K S) :
  Calls Tryz.prog 31 #[.pointer (some ⟨b,0,none⟩)] w (aQ fun v w'=>Kp [] w w'∧v=sv (bU (encZ m n t s S))):=by
 have hM:=QK hs
 have e8:(256:Nat) ^ 8=18446744073709551616:=by decide
 have hel:=YV hD t s
 have hbd:=Q1z (m:=m) (n:=n) (t:=t) (s:=s) (K:=K) hK (by rw[e8];omega) (by rw[e8];omega) (by rw[e8];omega) (by rw[e8];omega) hb
 refine Qa [] (keys (aK b W m n t s T)) hM (aK b W m n t s T) Tryz.func31 rfl mixed (by kernel_rfl) Tryz.ntmps31 Tryz.results31 rfl hs (fun p hp=>List.mem_map.2 ⟨p,hp,rfl⟩) ?_
 simp only[toS,Qe,Qx,Qo,Qr,ay,Ql,Qy,aB]
 unfold aK dF
 repeat' first|apply jS|apply jO|apply jN|refine Q1 ?_|refine Q0 ?_|apply jT
 refine Q1s (by kernel_rfl) rfl rfl rfl rfl ?_
 repeat' first|apply jS|apply jO|apply jD|apply jN|apply jT|refine Q1 ?_|refine Q2 ?_|refine Q0 ?_|refine Q7 ?_|refine Q3 ?_|apply jK|refine Q4 rfl ?_
 refine Qaf (l:=[(0,nv m),(1,nv n),(2,nv t),(3,nv s)]) (cs:=#[nv m,nv n,nv t,nv s]) rfl rfl rfl rfl ?_
 repeat' first|apply jN|apply jT|refine Q1 ?_|apply jB
 obtain⟨hd,hhd⟩:∃ hd:List Nat,hd=[m,n,t,s]:=⟨_,rfl⟩
 have hdl:hd.length=4:=by rw[hhd];rfl
 have hdb:∀ q,q<4→hd.getD q 0<100:=fun q hq=>by
  rcases(show q=0∨q=1∨q=2∨q=3 by omega)with rfl|rfl|rfl|rfl<;>rw[hhd]<;>assumption
 have hdc:∀ q,q<4→#[nv m,nv n,nv t,nv s][q]?=some (nv (hd.getD q 0)):=fun q hq=>by
  rcases(show q=0∨q=1∨q=2∨q=3 by omega)with rfl|rfl|rfl|rfl<;>rw[hhd]<;>rfl
 refine Qn (ι:=Nat × Value × aj) ⟨fun z=>[(30,nv z.1),(29,.agg #[nv m,nv n,nv t,nv s]),(3,z.2.1),(0,.pointer (some ⟨b,0,none⟩))],fun z=>z.2.2++aK b W m n t s T,
  fun z=>z.1≤4∧fU z.2.2 z.2.1 ((hd.take z.1).map fun(x:Nat)=>(x:Int)),fun z=>4-z.1⟩ (0,.slice none 0 0,[]) ⟨by omega,fU.nil⟩ aC (HSub.refl _) (fun z hz=>?_)
 obtain⟨q,v3,N⟩:=z
 obtain⟨hq,hO⟩:=hz
 dsimp only at hq hO ⊢
 by_cases hlt:q<4
 ·have hq1:=hdb q hlt
  repeat' first|apply jS|apply jO|apply jN|apply jT|(refine Qg (h1:=?_) (h2:=?_)<;>intro hc<;>try omega)|apply jK|refine Q5 rfl ?_|apply jB
  refine Qe8 rfl rfl rfl rfl hlt (hdc q hlt) ?_
  repeat' first|apply jO|apply jN|refine Q1 ?_|refine Q0 ?_|apply jT
  refine Q9 au rfl aF rfl (fun w _ _=>Qml w (hd.getD q 0) hq1) fun w v w' _ _ _ hR=>?_
  subst hR
  repeat' first|refine QH (h:=fun _=>?_)|fail
  rename_i b36
  refine Q10 (A:=[_]) (B:=aK b W m n t s T) hO (Q1u b36 (sv (tx ((hd.getD q 0:Nat):Int)))).rd Qb rfl au rfl rfl rfl rfl (by rw[List.length_map,List.length_take];omega) (fun v' N' aX=>?_)
  rw[show ((hd.take q).map fun(x:Nat)=>(x:Int))++[((hd.getD q 0:Nat):Int)]=((hd.take (q+1)).map fun(x:Nat)=>(x:Int)) by
   rw[List.take_add_one,Vj,List.getD,List.getElem?_eq_getElem (show q<hd.length by omega)];rfl]at aX
  repeat' first|apply jO|apply jN|apply jT|refine Q1 ?_|refine Q0 ?_|refine Qd ?_|apply jW
  exact Q8 (q+1,v',N') ⟨by dsimp only;omega,aX⟩ aW aC (HSub.skip (HSub.refl _))
 ·obtain rfl:q=4:=by omega
  repeat' first|apply jS|apply jO|apply jN|apply jT|refine Q1 ?_|(refine Qg (h1:=?_) (h2:=?_)<;>intro hc<;>try omega)|apply jU|apply jE|refine Q4 rfl ?_|apply Qc
  rw[show ((hd.take 4).map fun(x:Nat)=>(x:Int))=dw m n t s S 0 by rw[hhd];rfl]at hO
  refine Qt (A:=[]) (B:=N++aK b W m n t s T) rfl au rfl aF rfl (fun w _ hs=>Qbh w b W m n t s T S hW hD ((Qf (HSub.refl _)).aV hs) oq oq) fun w v w' _ _ _ hR=>?_
  obtain⟨N1,N2,N3,N4,N5,E1,E2,E3,E4,E5,rfl,_,hNew,bG,hO2,hO3,hO4,iy⟩:=hR
  refine⟨N1++(N2++(N3++(N4++N5))),hNew,?_⟩
  clear hNew
  obtain⟨A1,c1,rfl⟩:=bG.form
  obtain⟨A2,c2,rfl⟩:=hO2.form
  obtain⟨A3,c3,rfl⟩:=hO3.form
  obtain⟨A4,c4,rfl⟩:=hO4.form
  obtain⟨A5,c5,rfl⟩:=iy.form
  repeat' first|apply jS|apply jO|apply jN|refine Q2 ?_|refine Q6 ?_|refine Qh fun _=>?_|refine Q6 ?_|apply jT
  refine QB 0 rfl rfl rfl rfl rfl rfl rfl rfl ?_
  repeat' first|refine Q2 ?_|fail
  refine QB 0 rfl rfl rfl rfl rfl rfl rfl rfl ?_
  repeat' first|refine Q2 ?_|fail
  refine QB 0 rfl rfl rfl rfl rfl rfl rfl rfl ?_
  repeat' first|refine Q2 ?_|fail
  refine QB 0 rfl rfl rfl rfl rfl rfl rfl rfl ?_
  repeat' first|refine Q2 ?_|fail
  refine QB 0 rfl rfl rfl rfl rfl rfl rfl rfl ?_
  skip
  refine Zr (l:=[(0,.agg #[nv m,nv m,.slice A1 (m*m) c1]),(1,.agg #[nv m,nv m,.slice A2 (m*m) c2]),(2,.agg #[nv m,nv n,.slice A3 (m*n) c3]),(3,.agg #[nv n,nv n,.slice A4 (n*n) c4]),(4,.agg #[nv n,nv n,.slice A5 (n*n) c5])]) (cs:=smC m n (.slice A1 (m*m) c1) (.slice A2 (m*m) c2) (.slice A3 (m*n) c3) (.slice A4 (n*n) c4) (.slice A5 (n*n) c5)) rfl rfl rfl rfl dq dq (by kernel_rfl) (fun jA=>?_)
  repeat' first|apply jN|apply jT|refine Q1 ?_|refine ZC (h:=?_)|apply jB
  obtain⟨cs,hcs⟩:∃ cs,cs=smC m n (.slice A1 (m*m) c1) (.slice A2 (m*m) c2) (.slice A3 (m*n) c3) (.slice A4 (n*n) c4) (.slice A5 (n*n) c5):=⟨_,rfl⟩
  obtain⟨M,hMM⟩:∃ M:aj,M=N1++(N2++(N3++(N4++N5))):=⟨_,rfl⟩
  have hmm:m*m≤40000:=Vn (show m≤200 by omega) (show m≤200 by omega)
  have hmn:m*n≤40000:=Vn (show m≤200 by omega) (show n≤200 by omega)
  have hnn:n*n≤40000:=Vn (show n≤200 by omega) (show n≤200 by omega)
  have hk5:∀ k,k<5→∃ (r c L cap:Nat) (A:Option Addr) (Nk:aj),cs[0+k*3]?=some (nv r)∧cs[0+k*3+1]?=some (nv c)∧cs[0+k*3+2]?=some (.slice A L cap)∧aN Nk (.slice A L cap) L ((fJ S).getD k [])∧HSub Nk M∧L≤40000:=fun k hk=>by
   rw[hcs,hMM]
   rcases(show k=0∨k=1∨k=2∨k=3∨k=4 by omega)with rfl|rfl|rfl|rfl|rfl
   ·exact⟨_,_,_,_,_,_,rfl,rfl,rfl,bG,HSub.dJ,hmm⟩
   ·exact⟨_,_,_,_,_,_,rfl,rfl,rfl,hO2,Qf HSub.dJ,hmm⟩
   ·exact⟨_,_,_,_,_,_,rfl,rfl,rfl,hO3,Qf (Qf HSub.dJ),hmn⟩
   ·exact⟨_,_,_,_,_,_,rfl,rfl,rfl,hO4,Qf (Qf (Qf HSub.dJ)),hnn⟩
   ·exact⟨_,_,_,_,_,_,rfl,rfl,rfl,iy,Qf (Qf (Qf (Qf (HSub.refl _)))),hnn⟩
  refine Qn (ι:=Nat × Value × aj) ⟨fun z=>[(53,nv z.1),(52,nv 5),(51,.slice (some ⟨jA,0,none⟩) 5 5),(3,z.2.1),(0,.pointer (some ⟨b,0,none⟩))],fun z=>(jA,.cells cs 28)::(z.2.2++(M++aK b W m n t s T)),
   fun z=>z.1≤5∧fU z.2.2 z.2.1 (dw m n t s S z.1),fun z=>5-z.1⟩ (0,v3,N) ⟨by omega,hO⟩ aC (by rw[hcs,hMM];exact HSub.at 0 rfl (HSub.skip (Y5 (Q54 _ N _)))) (fun z hz=>?_)
  clear hO bG hO2 hO3 hO4 iy hcs hMM
  obtain⟨k,v3,N⟩:=z
  obtain⟨hk,hO⟩:=hz
  dsimp only at hk hO ⊢
  by_cases hlt:k<5
  ·obtain⟨r,c,L,cap,A,Nk,h1,h2,h3,hOk,hNk,hL⟩:=hk5 k hlt
   have hLl:=hOk.len
   have hbk:∀ x∈(fJ S).getD k [],x.natAbs<256 ^ K:=fun x hx=>hbd x (by
    rw[← Xi]
    unfold dw
    refine List.mem_append_right _ (List.mem_flatten.2 ⟨_,?_,hx⟩)
    rw[show (fJ S).take 5=fJ S from rfl]
    exact QV (show k<(fJ S).length from hlt))
   repeat' first|apply jS|apply jO|apply jN|apply jT|(refine Qg (h1:=?_) (h2:=?_)<;>intro hc<;>try omega)|apply jK|refine Q5 rfl ?_|apply jB
   refine Zh (o:=0) (j:=k) rfl rfl rfl (fun _=>rfl) rfl hlt ?_
   skip
   refine QB 0 rfl rfl rfl rfl rfl h1 h2 h3 ?_
   repeat' first|apply jS|apply jO|apply jN|apply jT|refine Q1 ?_|refine Q2 ?_|refine Q7 ?_|refine Zt (h:=?_)|refine Q6 ?_|refine Qh fun _=>?_|refine Q6 ?_|apply jB
   have hAl:(dw m n t s S k).length+L≤1000000:=by
    have h5:(dw m n t s S (k+1)).length≤(encZ m n t s S).length:=by
     rw[← Xi, ← YH m n t s S k hlt]
     rcases(show k=0∨k=1∨k=2∨k=3∨k=4 by omega)with rfl|rfl|rfl|rfl|rfl<;>simp[dw,fJ]<;>omega
    rw[← YH m n t s S k hlt,Vi]at h5
    omega
   refine Qn (ι:=Nat × Value × aj) ⟨fun z=>[(60,nv z.1),(59,nv L),(58,.slice A L cap),(53,nv k),(52,nv 5),(51,.slice (some ⟨jA,0,none⟩) 5 5),(3,z.2.1),(0,.pointer (some ⟨b,0,none⟩))],fun z=>(jA,.cells cs 28)::(z.2.2++(M++aK b W m n t s T)),
    fun z=>z.1≤L∧fU z.2.2 z.2.1 (dw m n t s S k++((fJ S).getD k []).take z.1),fun z=>L-z.1⟩ (0,v3,N) ⟨by omega,by rw[List.take_zero,Vh];exact hO⟩ aC (HSub.skip (HSub.refl _)) (fun z hz=>?_)
   clear hO
   obtain⟨c1,v3,N⟩:=z
   obtain⟨hc1,hO⟩:=hz
   dsimp only at hc1 hO ⊢
   by_cases hlt2:c1<L
   ·repeat' first|apply jS|apply jO|apply jN|apply jT|refine QY (h:=?_)|(refine Qg (h1:=?_) (h2:=?_)<;>intro hc<;>try omega)|apply jK|refine Q5 rfl ?_|apply jB
    refine Y4 rfl rfl rfl rfl hOk.rd (hNk.trans (HSub.skip (Qf HSub.dJ))) hlt2 ?_
    repeat' first|apply jO|apply jN|refine Q1 ?_|refine Qm ?_|refine Q6 ?_|refine Qh fun _=>?_|refine Q6 ?_|apply jT
    refine Q9 au rfl aF rfl (fun w _ _=>Qg5 w _ (((fJ S).getD k []).getD c1 0) K (QC (hbk _ (QV oq))) oq) fun w v w' _ _ _ hR=>?_
    subst hR
    repeat' first|refine QH (h:=fun _=>?_)|fail
    rename_i b10 b67
    refine Q10 (A:=[_,_,_]) (B:=M++aK b W m n t s T) hO (Q1u b67 (sv (tx (((fJ S).getD k []).getD c1 0)))).rd Qb rfl au rfl rfl rfl rfl (by rw[Vi,List.length_take];omega) (fun v' N' aX=>?_)
    rw[Vb, ← Q6c oq]at aX
    repeat' first|apply jO|apply jN|apply jT|refine Q1 ?_|refine Q0 ?_|refine Qd ?_|apply jW
    exact Q8 (c1+1,v',N') ⟨by dsimp only;omega,aX⟩ aW aC (HSub.skip (HSub.skip (HSub.refl _)))
   ·obtain rfl:c1=L:=by omega
    rw[Vd oq,YH m n t s S k hlt]at hO
    repeat' first|apply jS|apply jO|apply jN|apply jT|refine Q1 ?_|refine Qd ?_|(refine Qg (h1:=?_) (h2:=?_)<;>intro hc<;>try omega)|apply jU|apply jE|refine Q4 rfl ?_|apply jW|apply Qc
    exact Q8 (k+1,v3,N) ⟨by dsimp only;omega,hO⟩ aW aC (HSub.refl _)
  ·obtain rfl:k=5:=by omega
   rw[Xi]at hO
   repeat' first|apply jS|apply jO|apply jN|apply jT|refine Q1 ?_|(refine Qg (h1:=?_) (h2:=?_)<;>intro hc<;>try omega)|apply jU|apply jE|refine Q4 rfl ?_|apply Qc
   refine Q9 au rfl aF rfl (fun w hk hs=>Qk2 w v3 _ (encZ m n t s S) ((aH.rd hO).at hk hs Qb) (by rw[hel];omega) (by rw[hel];omega) (V0 (Q31 (K:=K) _ hbd) ?_)) fun w v w' _ _ _ hR=>?_
   ·rw[hel]
    exact V0 (Vn (show _≤200004 by omega) (show 3*K+2≤270000002 by omega)) dq
   subst hR
   repeat' first|apply jN|apply jT|refine Q0 ?_|apply jR
   exact Qj rfl (fun a w' st=>⟨Z3 hs st.kp (fun p hp=>st.hs.blk p (by exact Vc _ (List.mem_append_right _ (List.mem_append_right _ hp)))),rfl⟩)


theorem Qk0 (K L:Nat) (w:World) (v u:Value) (a b:ZM) (ha:gJ a) (hb:gJ b) (hK:K+L≤9000000000) (hx:gu K a) (hy:gu L b) (hv:jw w v a) (hu:jw w u b) (hr:a.c=b.r) :
  Calls Tryz.prog 74 #[v,u] w (aQ fun v w'=>Kp [] w w'∧iK (mulZ a b=fF a.r) v):=by
 have hmR:gJ (mulZ a b):=XZ ha.r hb.c
 have hoR:gJ (fF a.r):=XZ ha.r ha.r
 have hv0:=hv
 have hu0:=hu
 obtain⟨E,rfl,hE⟩:=hv
 obtain⟨E',rfl,hE'⟩:=hu
 refine Qa [⟨2,1,[],[]⟩] [] aA [] Tryz.func74 rfl mixed (by kernel_rfl) Tryz.ntmps74 Tryz.results74 rfl ⟨by simp,by simp⟩ aA ?_
 simp only[toS,Qe,Qx,Qo,Qr,ay,Ql,Qy,aB]
 repeat' first|apply jS|apply jO|apply jN|refine Q0 ?_|refine Qm ?_|refine QM (h:=fun _=>?_)|apply jT
 rename_i b2 b3
 refine Qt (A:=[_,_]) (B:=[]) rfl au rfl aF rfl (fun w hk _=>Qop K L w _ _ a b ha hb hr oq hx hy (hv0.mono hk) (hu0.mono hk)) fun w v w' _ _ _ hR=>?_
 obtain⟨N,u1,rfl,hN,E1,rfl,hO⟩:=hR
 obtain⟨A1,c1,rfl⟩:=hO.form
 refine⟨N,hN,?_⟩
 repeat' first|apply jS|apply jD|apply jN|refine Q1 ?_|refine Q2 ?_|refine Q0 ?_|refine Q7 ?_|refine Qm ?_|refine Qu (h:=?_)|refine Q6 ?_|refine Qh fun _=>?_|refine Q6 ?_|apply jT
 rename_i b4
 refine Qt (A:=[_,_,_]) (B:=N++[]) rfl au rfl aF rfl (fun w hk _=>Qmi a.r ha.r w) fun w v w' _ _ _ hR=>?_
 obtain⟨N2,eH,E2,rfl,hO2⟩:=hR
 obtain⟨A2,c2,rfl⟩:=hO2.form
 refine⟨N2,eH,?_⟩
 skip
 refine Q9 au rfl aF rfl (fun w hk hs=>Qmn w _ _ (mulZ a b) (fF a.r) hmR hoR ⟨_,rfl,hO.rd.at hk hs Qb⟩ ⟨_,rfl,hO2.rd.at hk hs Qb⟩) fun w v w' _ _ _ hR=>?_
 obtain⟨y,rfl,hy⟩:=hR
 repeat' first|apply jN|apply jT|refine Q0 ?_|refine Qp ?_|apply jR
 exact Qj rfl (fun a' w' st=>⟨st.kp,y,rfl,hy⟩)

def Q7b (S:Sm) (t i k:Nat):Bool:=decide (gQ (gE S.d i k) (gE S.d t t)=0) && (decide (decide (i=t)=decide (k=t)) || decide (gE S.d i k=0))
def WL (S:Sm) (t n i:Nat):Bool:=(List.range' t (n-t)).all (Q7b S t i)
def dI (S:Sm) (m n t:Nat):Bool:=decide (0<gE S.d t t) && (List.range' t (m-t)).all (WL S t n)
def gX (m n:Nat) (t s:Int) (S:Sm):Bool:=decide (0≤t∧t≤(min m n:Nat)∧0≤s∧s≤1099511627776) && (List.range' 0 (t.toNat-0)).all (dI S m n)

theorem Qil (K:Nat) (w:World) (b:Nat) (W:WV) (m n:Nat) (t s:Int) (T:WT) (S:Sm) (hW:dB W m n T S) (hs:aG (aK b W m n t s T) w) (hm:m≤200) (hn:n≤200) (ht : -9223372036854775808≤t∧t<9223372036854775808) (hs0 : -9223372036854775808≤s∧s<9223372036854775808) (hK:K≤4000000000) (hb:gZ K S.d=true) :
  Calls Tryz.prog 75 #[.pointer (some ⟨b,0,none⟩)] w (aQ fun v w'=>Kp [] w w'∧v=.bool (gX m n t s S)):=by
 have hM:=QK hs
 have hld:=hW.d.len
 have hTd:=hW.d.T
 have hVd:∀ a,tv T.d a=tv T.d a:=fun _=>rfl
 have hat:=hW.d.at
 have hbd:=WW hW.d hb
 have hres:∀ w',Kp (keys (aK b W m n t s T)) w w'→(∀ p∈aK b W m n t s T,w'.heap[p.1]?=some p.2)→Kp [] w w':=fun w' h1 h2=>Z3 hs h1 h2
 have hmin:(if (n:Int)<(m:Int) then (n:Int) else (m:Int))=((min m n:Nat):Int):=by split<;>omega
 refine Qa [] (keys (aK b W m n t s T)) hM (aK b W m n t s T) Tryz.func75 rfl mixed (by kernel_rfl) Tryz.ntmps75 Tryz.results75 rfl hs (fun p hp=>List.mem_map.2 ⟨p,hp,rfl⟩) ?_
 simp only[toS,Qe,Qx,Qo,Qr,ay,Ql,Qy,aB]
 by_cases hr:0≤t∧t≤(min m n:Nat)∧0≤s∧s≤1099511627776
 ·obtain⟨hr1,hr2,hr3,hr4⟩:=hr
  obtain⟨tn,rfl⟩:=Int.eq_ofNat_of_zero_le hr1
  have hsf:gX m n tn s S=(List.range' 0 (tn-0)).all (dI S m n):=by
   unfold gX
   rw[decide_eq_true ⟨hr1,hr2,hr3,hr4⟩,Bool.true_and]
   rfl
  rw[hsf]
  have bD:tn≤m:=by omega
  have htn:tn≤n:=by omega
  unfold aK dF
  repeat' first|apply jS|apply jO|apply jD|apply jN|apply jT|refine Q1 ?_|refine Q2 ?_|refine Q0 ?_|refine Q7 ?_|refine Q1p (h:=?_)|refine Qq ?_|refine Q3 ?_|(refine Qg (h1:=?_) (h2:=?_)<;>intro hc<;>try omega)|(refine QU (h1:=?_) (h2:=?_)<;>intro hc<;>try omega)|apply jK|refine Q4 rfl ?_|apply jB
  all_goals first
   | (exfalso;omega)
   | (exfalso;simp only[hmin]at *;omega)
   | skip
  refine Qn (ι:=Nat) ⟨fun z=>[(50,nv z),(49,nv tn),(0,.pointer (some ⟨b,0,none⟩))],fun _=>aK b W m n tn s T,
   fun z=>z≤tn∧(List.range' 0 (tn-0)).all (dI S m n)=(List.range' z (tn-z)).all (dI S m n),fun z=>tn-z⟩ 0 ⟨by omega,rfl⟩ aC (HSub.refl _) (fun z hz=>?_)
  obtain⟨hz,hal⟩:=hz
  dsimp only at hz hal ⊢
  by_cases hlt:z<tn
  ·have hzm:z<m:=by omega
   have hzn:z<n:=by omega
   rw[QS hlt,List.all_cons]at hal
   unfold aK dF
   repeat' first|apply jS|apply jO|apply jN|apply jT|refine Q1 ?_|refine Q2 ?_|refine Q0 ?_|refine Q7 ?_|refine Qm ?_|refine Zp (h:=?_)|refine Zv (h:=?_)|refine YQ (h:=?_)|refine YJ (h:=?_)|refine Q3 ?_|refine Q6 ?_|(refine Qg (h1:=?_) (h2:=?_)<;>intro hc<;>try omega)|refine Qh fun _=>?_|refine Q6 ?_|apply jK|refine Q5 rfl ?_|apply jB
   rename_i b4
   refine Q9 au rfl aF rfl (fun w _ _=>Qg7 w _ (tM T.d z z) K (QC (hbd z z)) oq) fun w v w' _ _ _ hR=>?_
   rw[hat]at hR
   subst hR
   by_cases hpv:0<gE S.d z z
   ·have hsg:(gE S.d z z).sign=1:=Int.sign_eq_one_of_pos hpv
    rw[hsg]
    have hpe:dI S m n z=(List.range' z (m-z)).all (WL S z n):=by unfold dI;rw[decide_eq_true hpv,Bool.true_and]
    rw[hpe]at hal
    repeat' first|apply jS|apply jO|apply jN|apply jT|refine Q1 ?_|refine Q0 ?_|(refine Xo (h1:=?_) (h2:=?_)<;>intro hc<;>try omega)|apply jK|refine Q4 rfl ?_|apply jB
    all_goals first
     | (exfalso;omega)
     | skip
    refine Qn (ι:=Nat) ⟨fun i=>[(5,nv i),(3,nv z),(4,.pointer (some ⟨b4,0,none⟩)),(50,nv z),(49,nv tn),(0,.pointer (some ⟨b,0,none⟩))],fun _=>(b4,.cells #[.bool (decide (gE S.d z z<0)),sv (aS (gE S.d z z).natAbs)] 75)::aK b W m n tn s T,
     fun i=>z≤i∧i≤m∧(List.range' 0 (tn-0)).all (dI S m n)=((List.range' i (m-i)).all (WL S z n) && (List.range' (z+1) (tn-(z+1))).all (dI S m n)),fun i=>m-i⟩ z ⟨by omega,by omega,hal⟩ aC (by rw[← hat z z];exact HSub.refl _) (fun i hi=>?_)
    clear hal
    obtain⟨hzi,him,hal⟩:=hi
    dsimp only at hzi him hal ⊢
    by_cases hlti:i<m
    ·rw[QS hlti,List.all_cons]at hal
     unfold aK dF
     repeat' first|apply jS|apply jO|apply jN|apply jT|refine Q1 ?_|refine Q2 ?_|refine Q0 ?_|refine Q7 ?_|refine Q3 ?_|(refine Qg (h1:=?_) (h2:=?_)<;>intro hc<;>try omega)|apply jK|refine Q5 rfl ?_|apply jB
     refine Qn (ι:=Nat) ⟨fun k=>[(6,nv k),(5,nv i),(3,nv z),(4,.pointer (some ⟨b4,0,none⟩)),(50,nv z),(49,nv tn),(0,.pointer (some ⟨b,0,none⟩))],fun _=>(b4,.cells #[.bool (decide (gE S.d z z<0)),sv (aS (gE S.d z z).natAbs)] 75)::aK b W m n tn s T,
      fun k=>z≤k∧k≤n∧(List.range' 0 (tn-0)).all (dI S m n)=((List.range' k (n-k)).all (Q7b S z i) && (List.range' (i+1) (m-(i+1))).all (WL S z n) && (List.range' (z+1) (tn-(z+1))).all (dI S m n)),fun k=>n-k⟩ z ⟨by omega,by omega,hal⟩ aC (HSub.refl _) (fun k hk=>?_)
     clear hal
     obtain⟨hzk,hkn,hal⟩:=hk
     dsimp only at hzk hkn hal ⊢
     by_cases hltk:k<n
     ·rw[QS hltk,List.all_cons]at hal
      unfold aK dF
      repeat' first|apply jS|apply jO|apply jN|apply jT|refine Q1 ?_|refine Q2 ?_|refine Q7 ?_|refine Qm ?_|refine Zp (h:=?_)|refine Zv (h:=?_)|refine YQ (h:=?_)|refine YJ (h:=?_)|refine Q3 ?_|refine Q6 ?_|(refine Qg (h1:=?_) (h2:=?_)<;>intro hc<;>try omega)|refine Qh fun _=>?_|refine Q6 ?_|apply jK|refine Q5 rfl ?_|apply jB
      rename_i b7
      have hxk:tM T.d i k=gE S.d i k:=hat i k
      rw[hxk]
      refine Q9 au rfl aF rfl (fun w _ _=>Qoo w _ _ (gE S.d i k) (gE S.d z z) K (QC (QT hb _ _)) (QC (QT hb _ _)) oq) fun w v w' _ _ _ hR=>?_
      rw[if_neg (show gE S.d z z≠0 by omega)]at hR
      subst hR
      repeat' first|apply jS|apply jO|apply jN|refine Q1 ?_|refine Q2 ?_|refine Q0 ?_|refine Q7 ?_|refine Qu (h:=?_)|refine Q6 ?_|refine Ya (h:=?_)|refine Qh fun _=>?_|refine Q6 ?_|apply jT
      rename_i b8 b9
      have hrz:gQ (gE S.d i k) (gE S.d z z)=gE S.d i k % gE S.d z z:=by unfold gQ;rw[if_neg oq]
      have hsa:Q7b S z i k=(decide (gE S.d i k % gE S.d z z=0) && (decide (decide (i=z)=decide (k=z)) || decide (gE S.d i k=0))):=by unfold Q7b;rw[hrz]
      rw[hsa]at hal
      have hmg:∀ x:Int,decide (aS x.natAbs≠[])=decide (x≠0):=fun x=>decide_eq_decide.2 (not_congr (bF.trans Int.natAbs_eq_zero))
      rw[hmg]
      by_cases h0:gE S.d i k % gE S.d z z=0
      ·rw[decide_eq_true h0,Bool.true_and]at hal
       rw[decide_eq_false (not_not_intro h0)]
       repeat' first|apply jO|apply jN|apply jT|refine Q1 ?_|refine Q2 ?_|refine Q0 ?_|refine Q7 ?_|refine Qd ?_|refine Qp ?_|refine Qq ?_|refine Ya (h:=?_)|(refine Zm (h1:=?_) (h2:=?_)<;>intro hc<;>try omega)|refine Q7g (h:=?_)|refine Q0b (h:=?_)|apply jK|refine Q4 rfl ?_|refine QA ?_|apply jW
       ·have he:decide (i=z)=decide (k=z):=by rw[decide_eq_true (show (i=z) by omega),decide_eq_true (show (k=z) by omega)]
        rw[decide_eq_true he,Bool.true_or,Bool.true_and]at hal
        exact Q8 (k+1) ⟨by first|omega|(dsimp only;omega),by first|omega|(dsimp only;omega),hal⟩ gY aC (by exact HSub.skip (HSub.skip (HSub.skip (HSub.refl _))))
       ·have he:¬(decide (i=z)=decide (k=z)):=by rw[decide_eq_true (show (i=z) by omega),decide_eq_false (show ¬(k=z) by omega)];decide
        rw[decide_eq_false he,Bool.false_or]at hal
        rw[hmg]
        by_cases hx0:gE S.d i k=0
        ·rw[decide_eq_true hx0,Bool.true_and]at hal
         rw[decide_eq_false (not_not_intro hx0)]
         repeat' first|apply jO|apply jN|apply jT|refine Q1 ?_|refine Q0 ?_|refine Qd ?_|apply jK|refine Q4 rfl ?_|apply jW
         exact Q8 (k+1) ⟨by first|omega|(dsimp only;omega),by first|omega|(dsimp only;omega),hal⟩ gY aC (by exact HSub.skip (HSub.skip (HSub.skip (HSub.refl _))))
        ·rw[decide_eq_false hx0,Bool.false_and,Bool.false_and]at hal
         rw[hal,decide_eq_true hx0]
         repeat' first|apply jS|apply jO|apply jN|apply jT|refine Q0 ?_|apply jV|apply jR|refine Q5 rfl ?_|apply Qz
         exact Qj rfl (fun a w' st=>⟨hres w' st.kp (fun p hp=>st.hs.blk p (by exact Vc _ (Vc _ (Vc _ (Vc _ hp))))),rfl⟩)
       ·have he:¬(decide (i=z)=decide (k=z)):=by rw[decide_eq_false (show ¬(i=z) by omega),decide_eq_true (show (k=z) by omega)];decide
        rw[decide_eq_false he,Bool.false_or]at hal
        rw[hmg]
        by_cases hx0:gE S.d i k=0
        ·rw[decide_eq_true hx0,Bool.true_and]at hal
         rw[decide_eq_false (not_not_intro hx0)]
         repeat' first|apply jO|apply jN|apply jT|refine Q1 ?_|refine Q0 ?_|refine Qd ?_|apply jK|refine Q4 rfl ?_|apply jW
         exact Q8 (k+1) ⟨by first|omega|(dsimp only;omega),by first|omega|(dsimp only;omega),hal⟩ gY aC (by exact HSub.skip (HSub.skip (HSub.skip (HSub.refl _))))
        ·rw[decide_eq_false hx0,Bool.false_and,Bool.false_and]at hal
         rw[hal,decide_eq_true hx0]
         repeat' first|apply jS|apply jO|apply jN|apply jT|refine Q0 ?_|apply jV|apply jR|refine Q5 rfl ?_|apply Qz
         exact Qj rfl (fun a w' st=>⟨hres w' st.kp (fun p hp=>st.hs.blk p (by exact Vc _ (Vc _ (Vc _ (Vc _ hp))))),rfl⟩)
       ·have he:decide (i=z)=decide (k=z):=by rw[decide_eq_false (show ¬(i=z) by omega),decide_eq_false (show ¬(k=z) by omega)]
        rw[decide_eq_true he,Bool.true_or,Bool.true_and]at hal
        exact Q8 (k+1) ⟨by first|omega|(dsimp only;omega),by first|omega|(dsimp only;omega),hal⟩ gY aC (by exact HSub.skip (HSub.skip (HSub.skip (HSub.refl _))))
      ·rw[decide_eq_false h0,Bool.false_and,Bool.false_and,Bool.false_and]at hal
       rw[hal,decide_eq_true h0]
       repeat' first|apply jS|apply jO|apply jN|apply jT|refine Q0 ?_|refine Qp ?_|apply jV|refine Q5 rfl ?_|apply Qz|refine QA ?_|apply jR
       exact Qj rfl (fun a w' st=>⟨hres w' st.kp (fun p hp=>st.hs.blk p (by exact Vc _ (Vc _ (Vc _ (Vc _ hp))))),rfl⟩)
     ·rw[show n-k=0 by omega]at hal
      have hal:(List.range' 0 (tn-0)).all (dI S m n)=((List.range' (i+1) (m-(i+1))).all (WL S z n) && (List.range' (z+1) (tn-(z+1))).all (dI S m n)):=by
       rw[hal]
       rfl
      unfold aK dF
      repeat' first|apply jS|apply jO|apply jN|apply jT|refine Q1 ?_|refine Q2 ?_|refine Q0 ?_|refine Q7 ?_|refine Qd ?_|refine Q3 ?_|(refine Qg (h1:=?_) (h2:=?_)<;>intro hc<;>try omega)|apply jU|apply jE|refine Q4 rfl ?_|apply jW|apply Qc
      exact Q8 (i+1) ⟨by first|omega|(dsimp only;omega),by first|omega|(dsimp only;omega),hal⟩ gY aC (HSub.refl _)
    ·rw[show m-i=0 by omega]at hal
     have hal:(List.range' 0 (tn-0)).all (dI S m n)=(List.range' (z+1) (tn-(z+1))).all (dI S m n):=by
      rw[hal]
      rfl
     unfold aK dF
     repeat' first|apply jS|apply jO|apply jN|apply jT|refine Q1 ?_|refine Q2 ?_|refine Q7 ?_|refine Qd ?_|refine Q3 ?_|(refine Qg (h1:=?_) (h2:=?_)<;>intro hc<;>try omega)|apply jU|apply jE|refine Q4 rfl ?_|apply jW|apply Qc
     exact Q8 (z+1) ⟨by first|omega|(dsimp only;omega),hal⟩ gY aC (HSub.skip (HSub.refl _))
   ·have hsg:¬0<(gE S.d z z).sign:=fun h=>hpv (Int.sign_pos_iff.1 h)
    have hpe:dI S m n z=false:=by unfold dI;rw[decide_eq_false hpv,Bool.false_and]
    rw[hpe,Bool.false_and]at hal
    rw[hal]
    repeat' first|apply jS|apply jO|apply jN|apply jT|refine Q0 ?_|(refine Xo (h1:=?_) (h2:=?_)<;>intro hc<;>try omega)|apply jV|apply jR|refine Q5 rfl ?_|apply Qz
    all_goals first
     | (exfalso;omega)
     | skip
    exact Qj rfl (fun a w' st=>⟨hres w' st.kp (fun p hp=>st.hs.blk p (by exact Vc _ hp)),rfl⟩)
  ·rw[show tn-z=0 by omega]at hal
   have hal:(List.range' 0 (tn-0)).all (dI S m n)=true:=hal
   rw[hal]
   unfold aK dF
   repeat' first|apply jS|apply jO|apply jN|apply jT|refine Q0 ?_|(refine Qg (h1:=?_) (h2:=?_)<;>intro hc<;>try omega)|apply jU|apply jE|apply jR|refine Q4 rfl ?_|apply Qc
   all_goals first
    | (exfalso;omega)
    | skip
   exact Qj rfl (fun a w' st=>⟨hres w' st.kp (fun p hp=>st.hs.blk p hp),rfl⟩)
 ·have hsf:gX m n t s S=false:=by
   unfold gX
   rw[decide_eq_false hr,Bool.false_and]
  rw[hsf]
  unfold aK dF
  repeat' first|apply jS|apply jO|apply jD|apply jN|apply jT|refine Q1 ?_|refine Q2 ?_|refine Q0 ?_|refine Q7 ?_|refine Q1p (h:=?_)|refine Qp ?_|refine Qq ?_|refine Q3 ?_|(refine Qg (h1:=?_) (h2:=?_)<;>intro hc<;>try omega)|(refine QU (h1:=?_) (h2:=?_)<;>intro hc<;>try omega)|apply jV|refine Q5 rfl ?_|refine QA ?_|apply jR
  all_goals first
   | (exfalso;omega)
   | (exfalso;simp only[hmin]at *;omega)
   | exact Qj rfl (fun a w' st=>⟨hres w' st.kp (fun p hp=>st.hs.blk p hp),rfl⟩)

end Go.Proofs.YtbofgpenopcfaaaGreatDoor

namespace Go.Proofs.YtbofgpenopcfaaaGreatDoor
open Go Go.RowKit Go.Shelf
set_option linter.unusedSimpArgs false
set_option linter.unusedVariables false
set_option linter.unusedSectionVars false

theorem Qem {n:Nat} (h:n<256):(UInt8.ofNat n).toNat=n:=by
 rw[UInt8.toNat_ofNat']
 exact Nat.mod_eq_of_lt h
theorem Qm2 (V:Nat):eP ((dec V).map UInt8.ofNat)=V∧∀ c∈(dec V).map UInt8.ofNat,digit c=true:=by
 induction V using Nat.strongRecOn with
 | ind V ih =>
  by_cases h0:V=0
  ·subst h0;exact⟨rfl,fun _ h=>absurd h List.not_mem_nil⟩
  ·obtain⟨h1,h2⟩:=ih (V / 10) oq
   rw[XV (Nat.pos_of_ne_zero h0),Vj]
   have hn:=Qem (n:=48+V % 10) oq
   show eP (List.map UInt8.ofNat (dec (V / 10))++[UInt8.ofNat (48+V % 10)])=V∧_
   refine⟨by rw[Q3t,h1,hn];omega,fun c hc=>?_⟩
   rcases List.mem_append.1 hc with h|h
   ·exact h2 c h
   ·rw[List.mem_singleton.1 h];exact(Yk _).2 (by rw[hn];omega)
theorem Qoe {V:Nat} (h:V≠0):dec V≠[]:=by
 rw[XV (Nat.pos_of_ne_zero h)]
 simp
theorem Ql6 (a:Int):PRes (tx a)=.tuple #[Wv a,.bool true]:=by
 by_cases h0:a=0
 ·subst h0;rfl
 ·have hz:a.natAbs≠0:=by omega
  obtain⟨h1,h2⟩:=Qm2 a.natAbs
  have h3:(dec a.natAbs).map UInt8.ofNat≠[]:=fun h=>Qoe hz (List.map_eq_nil_iff.1 h)
  unfold tx txt
  rw[if_neg h0,Vj]
  generalize (dec a.natAbs).map UInt8.ofNat=t at h1 h2 h3
  by_cases hn:a<0
  ·rw[if_pos hn]
   show (if t.all digit then Value.tuple #[Wv (bC true (eP t)),.bool (decide (t≠[]))] else .tuple #[Wv 0,.bool false])=_
   rw[if_pos (List.all_eq_true.2 h2),h1,decide_eq_true h3]
   have:bC true a.natAbs=a:=by simp only[bC,if_true];omega
   rw[this]
  ·rw[if_neg hn,List.map_nil,Vr]
   cases t with
   | nil=>exact absurd rfl h3
   | cons c t =>
    have hc:=(Yk c).1 (h2 c (Vf ..))
    have h45:(c == 45)=false:=by
     simp only[beq_eq_false_iff_ne]
     intro e
     subst e
     exact absurd hc.1 dq
    unfold PRes
    simp only[minus,body,h45,Bool.false_eq_true,if_false]
    rw[if_pos (List.all_eq_true.2 h2),h1]
    have:bC false a.natAbs=a:=by simp[bC];omega
    rw[this]
    rfl
theorem Qkb (a:Int):∀ c∈tx a,(32 == c)=false:=by
 intro c hc
 unfold tx txt at hc
 have key:∀ n:Nat,n<256→n≠32→((32:UInt8) == UInt8.ofNat n)=false:=fun n hn h=>by
  rw[beq_eq_false_iff_ne]
  intro e
  have:=congrArg UInt8.toNat e
  rw[Qem hn]at this
  exact h this.symm
 obtain⟨n,hn,rfl⟩:=List.mem_map.1 hc
 by_cases h0:a=0
 ·rw[if_pos h0]at hn
  rw[List.mem_singleton.1 hn]
  exact key 48 dq dq
 ·rw[if_neg h0]at hn
  rcases List.mem_append.1 hn with h1|h1
  ·by_cases hneg:a<0
   ·rw[if_pos hneg]at h1
    rw[List.mem_singleton.1 h1]
    exact key 45 dq dq
   ·rw[if_neg hneg]at h1;exact absurd h1 List.not_mem_nil
  ·have:=Qfi _ _ n h1
   exact key n oq oq
theorem idx32 (r:List UInt8):∀ l:List UInt8,(∀ c∈l,(32 == c)=false)→Lib.index (l++32::r) [32]=l.length
 | [],_=>by
  show (if ([32]:List UInt8).isPrefixOf (32::r) then (0:Int) else _)=_
  rw[if_pos (by simp[List.isPrefixOf])]
  rfl
 | c::l,h=>by
  have ih:=idx32 r l fun x hx=>h x (Vc _ hx)
  have hc:=h c (Vf ..)
  show (if ([32]:List UInt8).isPrefixOf (c::(l++32::r)) then (0:Int) else if Lib.index (l++32::r) [32] == -1 then -1 else Lib.index (l++32::r) [32]+1)=_
  rw[if_neg (by simp[List.isPrefixOf,hc]),ih,if_neg aA,List.length_cons]
  omega
theorem idx32n:∀ l:List UInt8,(∀ c∈l,(32 == c)=false)→Lib.index l [32] = -1
 | [],_=>rfl
 | c::l,h=>by
  have ih:=idx32n l fun x hx=>h x (Vc _ hx)
  have hc:=h c (Vf ..)
  show (if ([32]:List UInt8).isPrefixOf (c::l) then (0:Int) else if Lib.index l [32] == -1 then -1 else Lib.index l [32]+1)=_
  rw[if_neg (by simp[List.isPrefixOf,hc]),ih]
  rfl
def MaxL (w:World):Prop:=∃ m,w.cell? ⟨0,0,none⟩=some (.int .i64 m)
theorem MaxL.mono {w w':World} (h:MaxL w) (hk:Kp [] w w'):MaxL w':=by
 obtain⟨m,h⟩:=h
 refine⟨m,?_⟩
 have hb:=hk.block _ (Yt h) aA
 unfold World.cell? at h ⊢
 rw[hb]
 exact h
theorem Qdl:(Tryz.prog.info? (splitRen.t 9)).map (fun i=>(i.zero,i.size,i.bytes))=some (some (.string ByteArray.empty),1,16):=by kernel_rfl

def fK:List (List UInt8)→List UInt8
 | []=>[]
 | x::l=>32::(x++fK l)
def bZ:List (List UInt8)→List UInt8
 | []=>[]
 | x::l=>x++fK l
def NoB (x:List UInt8):Prop:=∀ c∈x,(32 == c)=false
theorem Qfl:∀ l:List Int,dW l=fK (l.map tx)
 | []=>rfl
 | x::l=>by
  show 32::(tx x++dW l)=32::(tx x++fK (l.map tx))
  rw[Qfl l]
theorem Q20 (l:List Int):bU l=bZ (l.map tx):=by
 cases l with
 | nil=>rfl
 | cons x l=>show tx x++dW l=tx x++fK (l.map tx);rw[Qfl l]
def spl:List UInt8→List (List UInt8)
 | []=>[[]]
 | c::s=>if c=32 then []::spl s else match spl s with
  | []=>[[c]]
  | x::l=>(c::x)::l
theorem Qjc (s:List UInt8):spl (32::s)=[]::spl s:=by rw[spl,if_pos rfl]
theorem XK {c:UInt8} (h:¬c=32) {s x:List UInt8} {l:List (List UInt8)} (hs:spl s=x::l):spl (c::s)=(c::x)::l:=by rw[spl,if_neg h,hs]
theorem Q7a (s:List UInt8):spl s≠[]:=by
 cases s with
 | nil=>simp[spl]
 | cons c s =>
  unfold spl
  split
  ·simp
  ·split<;>simp
theorem Qh8 (s:List UInt8):bZ (spl s)=s∧∀ x∈spl s,NoB x:=by
 induction s with
 | nil=>exact⟨rfl,fun x hx=>by simp[spl]at hx;subst hx;exact fun c hc=>absurd hc aA⟩
 | cons c s ih =>
  obtain⟨h1,h2⟩:=ih
  unfold spl
  by_cases hc:c=32
  ·subst hc
   rw[if_pos rfl]
   refine⟨?_,fun x hx=>?_⟩
   ·cases h:spl s with
    | nil=>exact absurd h (Q7a s)
    | cons y l=>rw[h]at h1;show []++(32::(y++fK l))=32::s;rw[← h1];rfl
   ·rcases List.mem_cons.1 hx with rfl|hx
    ·exact fun c hc=>absurd hc aA
    ·exact h2 x hx
  ·rw[if_neg hc]
   cases h:spl s with
   | nil=>exact absurd h (Q7a s)
   | cons y l =>
    rw[h]at h1 h2
    refine⟨by show (c::y)++fK l=c::s;rw[← h1];rfl,fun x hx=>?_⟩
    rcases List.mem_cons.1 hx with rfl|hx
    ·intro d hd
     rcases List.mem_cons.1 hd with rfl|hd
     ·simpa using fun e=>hc e.symm
     ·exact h2 y aA d hd
    ·exact h2 x (by simp[hx])
theorem Q5v:∀ (x:List UInt8) (r:List UInt8),NoB x→(spl (x++32::r)=x::spl r)∧spl x=[x]
 | [],r,_=>⟨Qjc r,rfl⟩
 | c::x,r,h=>by
  have hc:¬c=32:=fun e=>by have:=h c aA;subst e;simp at this
  obtain⟨h1,h2⟩:=Q5v x r fun d hd=>h d (by simp[hd])
  exact⟨XK hc h1,XK hc h2⟩
theorem Q2n:∀ (l:List (List UInt8)) (x:List UInt8),(∀ y∈x::l,NoB y)→spl (bZ (x::l))=x::l
 | [],x,h=>by
  show spl (x++[])=[x]
  rw[Vh]
  exact(Q5v x [] (h x aA)).2
 | y::l,x,h=>by
  show spl (x++32::bZ (y::l))=_
  rw[(Q5v x _ (h x aA)).1,Q2n l y fun z hz=>h z (by simp at hz ⊢;exact .inr hz)]
theorem Qgo (s:List UInt8):∃ x l,s=bZ (x::l)∧∀ y∈x::l,NoB y:=by
 obtain⟨h1,h2⟩:=Qh8 s
 cases h:spl s with
 | nil=>exact absurd h (Q7a s)
 | cons x l=>rw[h]at h1 h2;exact⟨x,l,h1.symm,h2⟩
theorem Q9o (a:Int):NoB (tx a):=Qkb a
theorem Qoh:∀ (l:List (List UInt8)) (x:List UInt8),(∀ y∈x::l,NoB y)→Lib.count (bZ (x::l)) [32]=l.length
 | [],x,h=>by
  show Lib.count (x++[]) [32]=0
  rw[Vh]
  exact Lib.count_miss (idx32n _ (h x aA))
 | y :: l, x, h => by
  have e:bZ (x::y::l)=x++32::bZ (y::l):=rfl
  rw[e,Lib.count_hit aA (idx32 (bZ (y::l)) x (h x aA))]
  have hd:(x++32::bZ (y::l)).drop (x.length+([32]:List UInt8).length)=bZ (y::l):=by
   rw[List.drop_append]
   simp
  rw[hd,Qoh l y fun z hz=>h z (by simp at hz ⊢;exact .inr hz),List.length_cons]
  omega
theorem Qnh:∀ (l:List (List UInt8)) (x:List UInt8),(∀ y∈x::l,NoB y)→Lib.splitK [32] 0 l.length (bZ (x::l))=x::l
 | [],x,_=>by
  show [x++[]]=[x]
  rw[Vh]
 | y :: l, x, h => by
  have e:bZ (x::y::l)=x++32::bZ (y::l):=rfl
  have hi:=idx32 (bZ (y::l)) x (h x aA)
  rw[e,List.length_cons]
  unfold Lib.splitK
  rw[hi,if_neg aA]
  have hd:(x++32::bZ (y::l)).drop ((x.length:Int).toNat+([32]:List UInt8).length)=bZ (y::l):=by
   rw[Int.toNat_natCast,List.drop_append]
   simp
  rw[hd,Qnh l y fun z hz=>h z (by simp at hz ⊢;exact .inr hz),Int.toNat_natCast,Vp,List.take_left]
def OwnW (N:aj) (v:Value) (l:List (List UInt8)):Prop:=aH 9 1 N v l.length (l.map sv)
theorem Qfm:∀ l:List (List UInt8),l.length≤(fK l).length
 | []=>V7 _
 | x::l=>by
  have:=Qfm l
  show l.length+1≤(32::(x++fK l)).length
  rw[List.length_cons,Vi]
  omega
theorem Q97 (x:List UInt8) (l:List (List UInt8)):l.length≤(bZ (x::l)).length:=by
 have:=Qfm l
 show _≤(x++fK l).length
 rw[Vi]
 omega
theorem Qb7:∀ {l:List (List UInt8)} {y:List UInt8},y∈l→y.length<(fK l).length
 | x::l,y,h=>by
  show _<(32::(x++fK l)).length
  rw[List.length_cons,Vi]
  rcases List.mem_cons.1 h with rfl|h
  ·omega
  ·have:=Qb7 h;omega
theorem Qb3 {x:List UInt8} {l:List (List UInt8)} {y:List UInt8} (h:y∈x::l):y.length≤(bZ (x::l)).length:=by
 show _≤(x++fK l).length
 rw[Vi]
 rcases List.mem_cons.1 h with rfl|h
 ·omega
 ·have:=Qb7 h;omega
theorem Qio (w:World) (x:List UInt8) (l:List (List UInt8)) (hlen:(bZ (x::l)).length<4294967281) (hB:∀ y∈x::l,NoB y) (hm:MaxL w) :
  Calls Tryz.prog 70 #[sv (bZ (x::l)),.string ⟨#[32]⟩] w (aQ fun v w'=>Kp [] w w'∧∃ N,New N w w'∧OwnW N v (x::l)):=by
 obtain⟨m,hm⟩:=hm
 have h:=Any.strings_Split Qng Qdl ⟨(bZ (x::l)).toArray⟩ ⟨#[32]⟩ m w (by show (bZ (x::l)).toArray.size<_;simpa using hlen) hm dq
 have hc:Lib.countB ⟨(bZ (x::l)).toArray⟩ ⟨#[32]⟩=l.length:=Qoh l x hB
 have hsp:(Lib.splitB ⟨#[32]⟩ 0 l.length ⟨(bZ (x::l)).toArray⟩).map Value.string=(x::l).map sv:=by
  have h1:=Lib.splitB_data ⟨#[32]⟩ 0 l.length ⟨(bZ (x::l)).toArray⟩
  have h2:Lib.splitK (⟨#[32]⟩:ByteArray).data.toList 0 l.length (⟨(bZ (x::l)).toArray⟩:ByteArray).data.toList=x::l:=Qnh l x hB
  rw[h2]at h1
  have h3:=congrArg (List.map sv) h1
  rw[List.map_map]at h3
  refine Eq.trans ?_ h3
  refine List.map_congr_left fun b _=>?_
  show Value.string b=sv b.data.toList
  unfold sv
  rfl
 rw[hc,hsp]at h
 refine h.mono fun e w' he=>?_
 obtain⟨rfl,rfl⟩:=he
 have hln:=Q97 x l
 refine⟨Kp.alloc [] _ _,_,New.one (V7 _) (heap_alloc_new w _),?_⟩
 have ho:=aH.mk' (e:=9) (sz:=1) (n:=l.length+1) (b:=w.heap.size) (cs:=((x::l).map sv).toArray) aA (by simp only[maxLen];omega)
 exact ho

set_option linter.unusedSimpArgs false
set_option linter.unusedVariables false
set_option linter.unusedSectionVars false

structure dO (b o n cap:Nat) (A:Option Addr):Prop where
 adr:0<n→A=some ⟨b,o*2,none⟩
 cap:n≤cap
theorem dO.rd {c:Cx} {N:aj} {b L capL o n cap:Nat} {A:Option Addr} {xs:List Int} (h:dO b o n cap A) (hv:fH c N (.slice (some ⟨b,0,none⟩) L capL) L xs) (ho:o+n≤L):fH c N (.slice A n cap) n ((xs.drop o).take n):=by
 unfold fH jI at hv ⊢
 rw[List.map_take,List.map_drop, ← Q0m, ← Q0n]
 obtain⟨hl,A0,c0,he,hnc,hc⟩:=hv
 refine⟨by rw[List.length_take,List.length_drop,hl];have:=V1 2 ho;omega,A,cap,rfl,h.cap,fun h0=>?_⟩
 have hA:=h.adr h0
 subst hA
 obtain⟨_,hc⟩:=hc oq
 refine⟨⟨b,o*2,rfl⟩,fun w hw j u hu=>?_⟩
 rw[List.getElem?_take]at hu
 split at hu
 ·rw[List.getElem?_drop]at hu
  have:=hc w hw _ u hu
  simpa using this
 ·cases hu

theorem Q4c (w:World) (b4 bl o n cap r k:Nat) (A:Option Addr) (hA:dO bl o n cap A) (hs:aG [(b4,.cells #[.slice A n cap] 26)] w) (hr:r≤200) (hk:k≤200) (hrk:r*k≤n) :
  Calls Tryz.prog 73 #[nv r,nv k,.pointer (some ⟨b4,0,none⟩)] w (aQ fun v w'=>Kp (keys [(b4,.cells #[.slice A n cap] 26)]) w w'∧∃ A1 c1 A2 c2,v=.agg #[nv r,nv k,.slice A1 (r*k) c1]∧dO bl o (r*k) c1 A1∧dO bl (o+r*k) (n-r*k) c2 A2∧w'.heap[b4]?=some (.cells #[.slice A2 (n-r*k) c2] 26)):=by
 have hM:=QK hs
 have hrk2:r*k≤40000:=Vn hr hk
 refine Qa [] (keys [(b4,.cells #[.slice A n cap] 26)]) hM [(b4,.cells #[.slice A n cap] 26)] Tryz.func73 rfl mixed (by kernel_rfl) Tryz.ntmps73 Tryz.results73 rfl hs (fun p hp=>List.mem_map.2 ⟨p,hp,rfl⟩) ?_
 simp only[toS,Qe,Qx,Qo,Qr,ay,Ql,Qy,aB]
 repeat' first|apply jS|apply jO|apply jN|refine Q1 ?_|refine Q7 ?_|refine Z1 (h:=?_)|refine Qh fun _=>?_|apply jT
 refine Y9 (b:=bl) (o:=o*2) (l:=0) (h':=r*k) rfl rfl rfl hA.adr rfl rfl (.inr ⟨rfl,rfl⟩) rfl rfl (.inl rfl) oq hrk hA.cap (fun A1 hA1=>?_)
 refine Zw (l:=[(0,nv r),(1,nv k),(2,.slice A1 (r*k-0) (cap-0))]) (cs:=#[nv r,nv k,.slice A1 (r*k-0) (cap-0)]) rfl rfl rfl rfl ?_
 repeat' first|apply jS|apply jO|apply jN|refine Q1 ?_|refine Q7 ?_|refine Z1 (h:=?_)|refine Q6 ?_|refine Qh fun _=>?_|refine Q6 ?_|apply jT
 refine Y9 (b:=bl) (o:=o*2) (l:=r*k) (h':=n) rfl rfl rfl hA.adr rfl rfl (.inl rfl) rfl rfl (.inr ⟨rfl,rfl⟩) hrk oq hA.cap (fun A2 hA2=>?_)
 repeat' first|apply jS|apply jO|apply jN|apply jT|refine Qm ?_|refine Q6 ?_|refine Q6 ?_|refine QO ?_|apply jR
 exact Z0 1 rfl rfl rfl (fun a w' st=>⟨st.kp,A1,cap-0,A2,cap-r*k,rfl,⟨fun h=>by have:=hA1 h;simpa using this,by have:=hA.cap;omega⟩,⟨fun h=>by have:=hA2 oq;rw[this,Vl],by have:=hA.cap;omega⟩,
  st.hs.blk (b4,.cells #[.slice A2 (n-r*k) (cap-r*k)] 26) (by exact Vc _ (Vc _ (Vf ..)))⟩)

end Go.Proofs.YtbofgpenopcfaaaGreatDoor

