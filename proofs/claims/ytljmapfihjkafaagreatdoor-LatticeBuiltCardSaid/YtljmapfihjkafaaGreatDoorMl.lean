import Derived.Test.YtljmapfihjkafaaGreatDoorMk
import Derived.Test.YtljmapfihjkafaaGreatDoorMg
set_option maxHeartbeats 16000000
namespace Go.Proofs.YtljmapfihjkafaaGreatDoor
open Go Go.RowKit
set_option linter.unusedSimpArgs false
set_option linter.unusedVariables false
set_option linter.unusedSectionVars false

def bI (m:ZM) (xs:List Int):List Int:=tab m.r fun i=>jq m xs i m.c
theorem Q7o (m:ZM) (xs:List Int):(jH m (iV xs)).e=bI m xs:=by
 show gu m.r 1 (bM m.c m.at (iV xs).at)=tab m.r _
 unfold gu
 rw[Nat.mul_one]
 refine Y0 fun i hi=>?_
 rw[Nat.div_one,Nat.mod_one]
 refine Q25 fun k _=>?_
 show m.at i k*xs.getD (k*1+0) 0=_
 rw[Nat.mul_one,Vt]
theorem Yk (m:ZM) (xs:List Int):(bI m xs).length=m.r:=by simp[bI]
theorem Q0w {K L:Nat} {m:ZM} {xs:List Int} (hm:cO m) (hx:cZ K m) (hy:fK L xs):fK (K+L+1) (bI m xs):=fun i=>by
 by_cases h:i<m.r
 ·unfold bI
  rw[Zq h]
  exact Qfo hm.c fun a=>X2 (hx.at i a) (hy a)
 ·rw[List.getD,List.getElem?_eq_none (by rw[Yk];omega)];exact bG _
theorem Qfj {m:ZM} {xs bs:List Int} (h:xs.length=m.c):SolP m xs bs↔bI m xs=bs:=by
 constructor
 ·intro hs
  exact(Q7w (d:=0) (by rw[Yk,hs.2.1]) fun i hi=>by
   rw[Yk]at hi
   unfold bI
   rw[Zq hi];exact hs.2.2 i hi)
 ·intro he
  refine⟨h,by rw[← he,Yk],fun i hi=>?_⟩
  rw[← he]
  unfold bI
  rw[Zq hi]

theorem Qlk (w:World) (v u:Value) (a:XM) (n:Nat) (xs:List WR) (h:¬(RX a∧a.C=n)) (hl1:a.E.length<1000000000) (hn:n≤2000000) (hv:IsX w v a) (hu:WX w u n xs) :
  Calls Tryz.prog 74 #[v,u] w (aP fun v w'=>Kp [] w w'∧v=.tuple #[.slice none 0 0,.bool false]):=by
 have jI:=hv
 obtain⟨E,rfl,hE⟩:=hv
 have hl:=hu.len
 refine Q9 [] [] au [] Tryz.func74 rfl mixed (by kernel_rfl) Tryz.ntmps74 Tryz.results74 rfl ⟨by simp,by simp⟩ au ?_
 simp only[toS,Qd,Qt,Qk,Ql,ay,Qg,QA,aC]
 have hR:=WX.rd (c:=⟨Tryz.prog,20,w,[],by simp⟩) hu rfl []
 obtain⟨A,cap,rfl⟩:=hu.form
 repeat' first|apply jS|apply jO|apply jN|refine Q1 ?_|refine Q0 ?_|refine Q7 ?_|refine Q4h (h:=?_)|refine QB fun _=>?_|refine Zh (h:=?_)|apply jT
 refine Q5 aA rfl rfl rfl (fun w hk _=>Qq0 w _ _ a ⟨n,1,xs⟩ (fun hh=>h ⟨hh.1,hh.2.2⟩) (jI.mono hk) ⟨_,rfl,by show WX w _ xs.length xs;rw[hl];exact hu.mono hk⟩ hl1 (by show xs.length<_;omega)) fun w v w' _ _ _ hR=>?_
 rw[show Qn8=.agg #[iv 0,iv 0,.slice none 0 0] from rfl]at hR
 subst hR
 repeat' first|apply jS|apply jO|apply jN|apply jT|refine Q1 ?_|refine Q3 ?_|refine Q0 ?_|refine Qb ?_|refine Qv (h:=?_)|refine Q2 ?_|refine Qc fun _=>?_|refine Q2 ?_|apply jR
 exact YH rfl rfl (fun a w' st=>⟨st.kp,rfl⟩)

theorem Qtj (w:World) (v u:Value) (a b:Int) (k:Nat) (hv:dR v a k) (hu:dR u b k) (hk:k≤29000000000000) :
  Calls Tryz.prog 78 #[v,u] w (aP fun r w'=>Kp [] w w'∧r=.bool (decide (a=b))):=by
 have hv0:=hv
 have hu0:=hu
 obtain⟨p,l,rfl,hl,ha⟩:=hv
 obtain⟨q,l',rfl,hl',hb⟩:=hu
 refine Q9 [] [] au [] Tryz.func78 rfl mixed (by kernel_rfl) Tryz.ntmps78 Tryz.results78 rfl ⟨by simp,by simp⟩ au ?_
 simp only[toS,Qd,Qt,Qk,Ql,ay,Qg,QA,aC]
 repeat' first|apply jS|apply jO|apply jN|refine Q0 ?_|refine Q7 ?_|refine QB fun _=>?_|apply jT
 refine Q5 aA rfl aH rfl (fun w _ _=>Qj3 w _ _ a b k hv0 hu0 oq) fun w v w' _ _ _ hR=>?_
 subst hR
 repeat' first|apply jN|apply jT|refine Q0 ?_|(refine Z9 (h1:=?_) (h2:=?_)<;>intro hc<;>try omega)|apply jR
 ·exact Qn rfl (fun a' w' st=>⟨st.kp,congrArg Value.bool (decide_eq_true (by have:=Int.sign_eq_zero_iff_zero.1 hc;omega)).symm⟩)
 ·exact Qn rfl (fun a' w' st=>⟨st.kp,congrArg Value.bool (decide_eq_false (fun e=>hc (by rw[e,Int.sub_self];rfl))).symm⟩)

theorem Qtl (K:Nat) (w:World) (v u:Value) (xs ys:List Int) (hv:WZ w v xs.length xs) (hu:WZ w u ys.length ys) (hn:xs.length≤2000000) (hk:ys.length≤2000000) (hK:K≤28000000000000) (hx:fK K xs) (hy:fK K ys) :
  Calls Tryz.prog 77 #[v,u,.func (.func 78) #[] #[]] w (aP fun v w'=>Kp [] w w'∧eX (xs=ys) v):=by
 obtain⟨A0,c0,rfl⟩:=hv.form
 obtain⟨A1,c1,rfl⟩:=hu.form
 refine Q9 [] [] au [] Tryz.func77 rfl mixed (by kernel_rfl) Tryz.ntmps77 Tryz.results77 rfl ⟨by simp,by simp⟩ au ?_
 simp only[toS,Qd,Qt,Qk,Ql,ay,Qg,QA,aC]
 have hR:=WZ.rd (c:=⟨Tryz.prog,32,w,[],by simp⟩) hv rfl []
 have hR1:=WZ.rd (c:=⟨Tryz.prog,32,w,[],by simp⟩) hu rfl []
 by_cases hd:xs.length=ys.length
 ·repeat' first|apply jS|apply jO|apply jN|apply jT|refine Q1 ?_|refine Q0 ?_|refine Zv (h:=?_)|(refine Ze (h1:=?_) (h2:=?_)<;>intro hc<;>try omega)|apply jK|refine Q4 rfl ?_|apply jB
  all_goals first
   | (exfalso;omega)
   | skip
  refine Qp (ι:=Nat) ⟨fun i=>[(17,nv i),(16,nv xs.length),(15,.slice A0 xs.length c0),(1,.slice A1 ys.length c1),(2,.func (.func 78) #[] #[])],fun _=>[],fun i=>i≤xs.length∧∀ j,j<i→xs.getD j 0=ys.getD j 0,fun i=>xs.length-i⟩ 0 ⟨by omega,fun j h=>by omega⟩ aF (HSub.nil _) (fun i hi=>?_)
  obtain⟨hin,hpr⟩:=hi
  dsimp only at hin hpr ⊢
  by_cases hlt:i<xs.length
  ·repeat' first|apply jS|apply jO|apply jN|apply jT|refine Q1 ?_|refine Q0 ?_|refine Q7 ?_|refine Zn (h:=?_)|refine XD (h:=?_)|refine Q2 ?_|(refine Qs (h1:=?_) (h2:=?_)<;>intro hc<;>try omega)|refine Qc fun _=>?_|refine Q2 ?_|apply jK|refine Q8 rfl ?_|apply jB
   refine Qcd aA rfl rfl rfl rfl (fun w' hk _=>Qtj w' _ _ (xs.getD i 0) (ys.getD i 0) K (Qi (hx i)) (Qi (hy i)) oq) fun w v w' _ _ _ hv=>?_
   subst hv
   by_cases he:xs.getD i 0=ys.getD i 0
   ·rw[decide_eq_true he]
    repeat' first|apply jO|apply jN|apply jT|refine Q1 ?_|refine Qj ?_|refine QV (h:=?_)|apply jK|refine Q4 rfl ?_|apply jW
    exact Qa (i+1) ⟨by first|omega|(dsimp only;omega),fun a ha=>by
     rcases Nat.lt_or_ge a i with h|h
     ·exact hpr a h
     ·obtain rfl:a=i:=by omega
      exact he⟩ dgp aF (HSub.nil _)
   ·rw[decide_eq_false he]
    repeat' first|apply jS|apply jO|apply jN|apply jT|refine Q0 ?_|refine QV (h:=?_)|apply jV|apply jR|refine Q8 rfl ?_|apply QT
    exact Qn rfl (fun a w' st=>⟨st.kp,eX.f (fun h=>he (by rw[h]))⟩)
  ·repeat' first|apply jS|apply jO|apply jN|apply jT|refine Q0 ?_|(refine Qs (h1:=?_) (h2:=?_)<;>intro hc<;>try omega)|apply jU|apply jE|apply jR|refine Q4 rfl ?_|apply Qe
   exact Qn rfl (fun a w' st=>⟨st.kp,eX.t (Q7w (d:=0) oq (fun j hj=>hpr j oq))⟩)
 ·repeat' first|apply jS|apply jO|apply jN|apply jT|refine Q1 ?_|refine Q0 ?_|refine Zv (h:=?_)|(refine Ze (h1:=?_) (h2:=?_)<;>intro hc<;>try omega)|apply jV|apply jR|refine Q8 rfl ?_
  all_goals first
   | (exfalso;omega)
   | exact Qn rfl (fun a w' st=>⟨st.kp,eX.f (fun h=>hd (by rw[h]))⟩)

theorem Qsj (K L:Nat) (w:World) (v u z:Value) (m:ZM) (xs bs:List Int) (hm:cO m) (hv:fO w v m) (hu:WZ w u xs.length xs) (hz:WZ w z bs.length bs) (hl1:xs.length≤2000000) (hl2:bs.length≤2000000) (hK:K+L≤27000000000000) (hx:cZ K m) (hy:fK L xs) (hy2:fK L bs) :
  Calls Tryz.prog 39 #[v,u,z] w (aP fun v w'=>Kp [] w w'∧eX (SolP m xs bs) v):=by
 have hv0:=hv
 have jI:=hv.x
 obtain⟨E,rfl,hE⟩:=hv
 obtain⟨A0,c0,rfl⟩:=hE.form
 obtain⟨A1,c1,rfl⟩:=hu.form
 obtain⟨A2,c2,rfl⟩:=hz.form
 refine Q9 [⟨1,2,[],[]⟩] [] au [] Tryz.func39 rfl mixed (by kernel_rfl) Tryz.ntmps39 Tryz.results39 rfl ⟨by simp,by simp⟩ au ?_
 simp only[toS,Qd,Qt,Qk,Ql,ay,Qg,QA,aC]
 repeat' first|apply jS|apply jO|apply jD|apply jN|refine Q1 ?_|refine Q0 ?_|refine Q7 ?_|refine QB fun _=>?_|apply jT
 rename_i b3
 refine Qf (A:=[_]) (B:=[]) rfl aA rfl aH rfl (fun w hk hs=>Qis L w _ xs.length xs (hu.mono hk) hl1 oq hy) fun w v w' _ _ _ hR=>?_
 obtain⟨N1,hN1,bT⟩:=hR
 obtain⟨A3,c3,rfl⟩:=bT.form
 refine⟨N1,hN1,?_⟩
 by_cases hd:xs.length=m.c
 ·skip
  refine Qf (A:=[_]) (B:=N1++[]) rfl aA rfl aH rfl (fun w hk hs=>Qbd K L w _ _ m xs hm hd.symm oq hx hy (hv0.mono hk) (bT.rd.at hk hs Q6)) fun w v w' _ _ _ hR=>?_
  obtain⟨N2,E2,fA,rfl,hO2⟩:=hR
  rw[Q7o]at hO2
  obtain⟨A4,c4,rfl⟩:=hO2.form
  refine⟨N2,fA,?_⟩
  have hab:=Q0w hm hx hy
  have hal:=Yk m xs
  have hmr:=hm.r
  repeat' first|apply jS|apply jO|apply jN|refine Q1 ?_|refine Q0 ?_|refine Qv (h:=?_)|apply jT
  refine Q5 aA rfl aH rfl (fun w hk hs=>Qtl (K+L+1) w _ _ (bI m xs) bs (hO2.rd.at hk hs Q6) (hz.mono hk) oq hl2 oq hab (fun i=>Y6 (hy2 i) oq)) fun w v w' _ _ _ hR=>?_
  obtain⟨b',rfl,hb⟩:=hR
  repeat' first|apply jN|apply jT|refine Q0 ?_|refine QD (h:=?_)|apply jR
  exact Qn rfl (fun a w' st=>⟨st.kp,b',rfl,hb.trans (Qfj hd).symm⟩)
 ·skip
  refine Q5 aA rfl aH rfl (fun w hk hs=>Qlk w _ _ m.xm xs.length (xs.map wz) (fun h=>hd (by have:=h.2;simp only[ZM.xm]at this;omega)) (Q08 hm) hl1 (jI.mono hk) (bT.rd.at hk hs Q6)) fun w v w' _ _ _ hR=>?_
  subst hR
  repeat' first|apply jS|apply jO|apply jN|apply jT|refine Q1 ?_|refine Q0 ?_|refine QC (h:=?_)|refine Qv (h:=?_)|refine QU (h:=?_)|apply jR
  exact Qn rfl (fun a w' st=>⟨st.kp,eX.f (fun h=>hd h.1)⟩)


theorem Q4v {w:World} {b:Nat} {o:Obj} (h:w.heap[b]?=some o):b<w.heap.size:=(Array.getElem?_eq_some_iff.1 h).1


theorem Qjb {m:ZM} {i j:Nat} (hi:i<m.r) (hj:j<m.c):atZ m i j=m.at i j:=by
 unfold atZ
 rw[if_pos ⟨by omega,by omega,by omega,by omega⟩,Int.toNat_natCast,Int.toNat_natCast]

end Go.Proofs.YtljmapfihjkafaaGreatDoor

namespace Go.Proofs.YtljmapfihjkafaaGreatDoor
open Go Go.RowKit Go.Shelf
set_option linter.unusedSimpArgs false
set_option linter.unusedVariables false
set_option linter.unusedSectionVars false

def Q02 (J Jr:aj→Prop) (c:Cx):Exit→Act→World→Prop
 | .normal,a,w=>∃ F H,J H∧Cells H∧St c F H a w
 | .ret,a,w=>∃ F H,Jr H∧Cells H∧St c F H a w
 | _,_,_=>False
theorem ZT {c:Cx} {F:ak} {H H':aj} {J Jr:aj→Prop} (hJ:J H') (hc:Cells H') (hs:HSub H' H):JX c (Q02 J Jr c) .normal F H :=
 ⟨fun a w st=>⟨[],H',hJ,hc,st.part trivial hs⟩⟩
theorem Qbi {c:Cx} {F:ak} {H H':aj} {J Jr:aj→Prop} (hJ:Jr H') (hc:Cells H') (hs:HSub H' H):JX c (Q02 J Jr c) .ret F H :=
 ⟨fun a w st=>⟨[],H',hJ,hc,st.part trivial hs⟩⟩
theorem RSt.exS {wb:World} {c:Cx} {H:aj} {W:World} {ob:Option Obj} {b n0:Nat} (h:RSt wb c H W) (hx:exOk n0 W ob b) (h1:wb.heap.size≤n0) (h2:c.w0.heap.size≤n0) (hd:∀ o,ob=some o→∀ p∈H,p.2≠o∨p.1<n0):RSt wb c (eH ob b++H) W:=by
 cases ob with
 | none=>exact h
 | some o =>
  obtain⟨hb,hn,hc⟩:=hx
  refine⟨h.hs.cons hb (fun hm=>?_),fun p hp=>?_,h.kp,h.kb,fun p hp=>?_,fun p hp=>?_⟩
  ·obtain⟨p,hp,e⟩:=List.mem_map.1 hm
   have:=h.hs.blk p hp
   rw[e,hb]at this
   rcases hd o rfl p hp with h'|h'
   ·exact h' (Option.some.inj this).symm
   ·omega
  all_goals
   rcases List.mem_cons.1 hp with rfl|hp
  ·exact .inl (V0 h2 hn)
  ·exact h.wr p hp
  ·exact V0 h1 hn
  ·exact h.ge p hp
  ·exact hc
  ·exact h.cells p hp

def Qqd (P:Program) (gf:Nat) (lb:Array Value) (u v:Nat→Value) (N:Nat) (ks:List Nat) (pr:World→Prop):Prop :=
 ∀ (n:Nat) (W:World),1≤n→pr W→SeqStopsK Fence.wide n P gf lb (fun i:{i:Nat // i<N}=>#[u i.1,v i.1]) (KB ks) (fun ys=>ys.map (·.1)=List.range N) (fun pre=>pre.map (·.1)=List.range pre.length) N W

def Stays (wb:World) (q:Nat) (Iv Ir:List Nat→aj→Prop):Prop:=q<wb.heap.size∨∃ o,(∀ k H',Iv k H'→(q,o)∈H')∧∀ k H',Ir k H'→(q,o)∈H'

section
variable {c:Cx} {Q:Exit→Act→World→Prop} {F:ak} {H:aj} {g:Operand} {p1 p2:Tmp} {assign body tail:Code} {gf:Nat} {lb:Array Value} {u v:Nat→Value} {N bx:Nat} {box:Obj} {ks:List Nat} {pr:World→Prop} {fn:Func} {R:Ending→World→Prop}

theorem Qlm {wb:World} {od:List Od} (hm:c.P.follows .mixedOrders=true) {Iv Ir:List Nat→aj→Prop} (hbx:∀ k H',Iv k H'→(bx,box)∈H') (hbr:∀ k H',Ir k H'→(bx,box)∈H') (hks:∀ q∈ks,Stays wb q Iv Ir) {FA:Nat→ak} {ob:Option Obj} {B n0 l m:Nat} {pre:List {i:Nat // i<N}} {i:{i:Nat // i<N}} {a':Act} {W1:World} (ji:okB c.P od body=true) (hl:∃ r,W1.heap[l]?=some (.loop r)) (hI:RInv wb c n0 Iv pre W1) (hA:jF c.n n0 FA ob a' W1) (hn0:wb.heap.size≤n0) (hn1:c.w0.heap.size≤n0)
  (hd:∀ o,ob=some o→∀ k H',Iv k H'→∀ p∈H',p.2≠o∨p.1<n0)
  (hbody:∀ b H' hM',Iv (pre.map (·.1)) H'→l∉keys (eH ob b++H')→Kp [] wb W1→(∀ p∈eH ob b++H',wb.heap.size≤p.1)→JC ⟨c.P,c.n,W1,keys (eH ob b++H'),hM'⟩ (Q02 (Iv (pre.map (·.1)++[i.1])) (Ir (pre.map (·.1)++[i.1])) ⟨c.P,c.n,W1,keys (eH ob b++H'),hM'⟩) (toB l m od body) (FA b) (eH ob b++H')) :
  body.wpIn (Fence.wide.inRound l) m c.P (ownPostG B (KB ks) (RInv wb c n0 Iv) (fun cd xs W=>cd=.ret∧RInv wb c n0 Ir xs W) (pre++[i]) W1) a' W1:=by
 obtain⟨hsz,H0,hi,hR0⟩:=hI
 obtain⟨b,hA,hx⟩:=hA
 have hR:=hR0.exS hx hn0 hn1 (fun o ho=>hd o ho _ _ hi)
 obtain⟨r,hr⟩:=hl
 have hln:l∉keys (eH ob b++H0):=fun hm'=>by
  obtain⟨p,hp,rfl⟩:=List.mem_map.1 hm'
  have h1:=hR.hs.blk p hp
  rw[hr]at h1
  have h2:=hR.cells p hp
  rw[← Option.some.inj h1]at h2;cases h2
 have hM':=Zk hR.hs
 refine wpIn_mono (Z8 (c:=⟨c.P,c.n,W1,keys (eH ob b++H0),hM'⟩) l m od hm body _ _ _ ji ((hbody b H0 hM' hi hln hR.kb hR.ge).h _ _ ⟨hA,Kp.refl _ _,hR.hs,fun p hp=>.inr (List.mem_map.2 ⟨p,hp,rfl⟩)⟩)) (fun e a w hq=>?_)
 cases e with
 | normal =>
  obtain⟨F2,H2,hJ,hc2,st2⟩:=hq
  obtain⟨h1,h2,h3⟩:=XV (c2:=⟨c.P,c.n,W1,keys (eH ob b++H0),hM'⟩) B bx box hR rfl st2 hc2 (List.mem_append_right _ (hbx _ _ hi)) (hbx _ _ hJ)
  exact⟨h1,fun q hq=>(by
   rcases hks q hq with h|⟨o,ho,_⟩
   ·exact(h3.kb.block q h au).trans (hR.kb.block q h au).symm
   ·exact(h3.hs.blk _ (ho _ _ hJ)).trans (hR0.hs.blk _ (ho _ _ hi)).symm),V0 hsz st2.kp.size,H2,by rw[Vl];exact hJ,h3⟩
 | ret =>
  obtain⟨F2,H2,hJ,hc2,st2⟩:=hq
  obtain⟨h1,h2,h3⟩:=XV (c2:=⟨c.P,c.n,W1,keys (eH ob b++H0),hM'⟩) B bx box hR rfl st2 hc2 (List.mem_append_right _ (hbx _ _ hi)) (hbr _ _ hJ)
  exact⟨h1,rfl,V0 hsz st2.kp.size,H2,by rw[Vl];exact hJ,h3⟩
 | _=>exact hq.elim

theorem Q35 {od:List Od} (wb:World) (hwb:c.w0=wb) (hm:c.P.follows .mixedOrders=true) (hM:c.M=[]) (hg:ev F g=some (.func (.func gf) #[] lb)) (eg:∀ args w,(callFunc gf args).run c.P w=.ok (.enter gf args) w)
  (it:Qqd c.P gf lb u v N ks pr) (Iv Ir:List Nat→aj→Prop) (hbx:∀ k H',Iv k H'→(bx,box)∈H') (hbr:∀ k H',Ir k H'→(bx,box)∈H') (hks:∀ q∈ks,Stays wb q Iv Ir) (hcl:∀ k H',Iv k H'→Cells H') (H0:aj) (h0:Iv [] H0) (hH0:HSub H0 H) (hpr:∀ W,Kp [] wb W→aI H0 W→pr W) (FA:Nat→Nat→ak) (ob:Nat→Option Obj) (hd:∀ i o,ob i=some o→∀ k H',Iv k H'→∀ p∈H',p.2≠o∨p.1∈keys H0)
  (hp1:Nat.blt p1 c.n=true) (hp2:Nat.blt p2 c.n=true) (hoka:okB c.P od assign=true) (ji:okB c.P od body=true) (htl:Q5t tail=true) (hQ:∀ a w,tail.wp c.P (bodyPostM Fence.wide 5 c.P fn R) a w→Q .normal a w) (hQr:∀ a w,bodyPostM Fence.wide 5 c.P fn R .ret a w→Q .ret a w)
  (hassign:∀ l i W hW,JC ⟨c.P,c.n,W,[],hW⟩ (Q6r c.n (FA i) (ob i) ⟨c.P,c.n,W,[],hW⟩) (toB l 3 od assign) ((p2,v i)::(p1,u i)::F) [])
  (hbody:∀ l i pre b H' W1 hM',i<N→pre.length<N→Iv pre H'→(∃ r,W1.heap[l]?=some (.loop r))→l∉keys (eH (ob i) b++H')→Kp [] wb W1→(∀ p∈eH (ob i) b++H',wb.heap.size≤p.1)→JC ⟨c.P,c.n,W1,keys (eH (ob i) b++H'),hM'⟩ (Q02 (Iv (pre++[i])) (Ir (pre++[i])) ⟨c.P,c.n,W1,keys (eH (ob i) b++H'),hM'⟩) (toB l 3 od body) (FA i b) (eH (ob i) b++H'))
  (hdone:∀ D H',Iv (List.range N) H'→wb.heap.size≤D→JC c (fun e a w=>bodyPostM Fence.wide 5 c.P fn R e (ad [{ target:=.collected D,args:=#[] }] a) w) (toS od tail) F ((D,.deferred (some []))::H'))
  (hstop:∀ D k H',Ir (List.range k) H'→wb.heap.size≤D→JX c (fun e a w=>bodyPostM Fence.wide 5 c.P fn R e (ad [{ target:=.collected D,args:=#[] }] a) w) .ret F ((D,.deferred (some []))::H')) :
  JC c Q (.raw (.rangeFunc g #[p1,p2] assign body)) F H:=by
 subst hwb
 refine⟨fun a W st=>?_⟩
 obtain⟨tm,df⟩:=a
 obtain rfl:df=[]:=st.fr.defers
 have st0:=st.heap hH0
 have hkp:Kp [] c.w0 W:=by have:=st.kp;rwa [hM]at this
 have hI0:RInv (N:=N) c.w0 c W.heap.size Iv [] W:=⟨V8 _,H0,h0,st0.hs,st0.wr,st.kp,hkp,fun p hp=>(by
  rcases st0.wr p hp with h|h
  ·exact h
  ·rw[hM]at h;cases h),hcl _ _ h0⟩
 have hWs:c.w0.heap.size≤W.heap.size:=st.kp.size
 have hbxW:=st0.hs.blk _ (hbx _ _ h0)
 have hbxlt:bx<W.heap.size:=(Array.getElem?_eq_some_iff.1 hbxW).1
 have hkl:=Zk st0.hs
 have hkq:∀ q∈ks,q<W.heap.size:=fun q hq=>by
  rcases hks q hq with h|⟨o,ho,_⟩
  ·exact V7 h hkp.size
  ·exact hkl q (List.mem_map.2 ⟨_,ho _ _ h0,rfl⟩)
 refine wpIn_wide.1 (wpIn_rangeFunc_ownH (F:=Fence.wide) (n:=5) rfl oq (gf:=gf) (lb:=lb) (st.fr.ev hg) trivial eg
  (it 4 W oq (hpr W hkp st0.hs)) KB.trans (fun W' l o o' hl ho _ _ q hq=>?_) (Below.refl _ _) (fun _=>rfl)
  (RInv c.w0 c W.heap.size Iv) (fun cd xs W'=>cd=.ret∧RInv c.w0 c W.heap.size Ir xs W') (Q03 hWs hWs) (fun cd xs A B row hs hg hr=>⟨hs.1,Q03 hWs hWs xs A B row hs.2 hg hr⟩) hI0 (fun i a W'=>jF c.n W.heap.size (FA i.1) (ob i.1) a W') (fun _ _=>Q3t) ?assign ?body ?done ?stop)
 ·have iR:=hkq q hq
  exact World.putObj_heap_other (fun e=>by omega)
 case assign =>
  intro l pre i W1 K hI hK
  have hW1:W.heap.size≤W1.heap.size:=hI.1
  rw[zip2]
  refine wpIn_mono (Z8 (c:=⟨c.P,c.n,W1,[],by simp⟩) l 3 od hm assign _ _ _ hoka ((hassign l i.1 W1 au).h _ _ ⟨?_,Kp.refl _ _,⟨by simp,by simp⟩,fun p hp=>by cases hp⟩)) (fun e a w hq=>?_)
  ·exact(st.fr.set' (u i.1) hp1).set' (v i.1) hp2
  ·cases e with
   | normal =>
    obtain⟨h1,h2,h3⟩:=Qdx (B:=W.heap.size) hI hbx hq.1
    exact hK _ _ h1 (fun q hq'=>hq.1.block q (V7 (hkq q hq') hW1) au) h3 (hq.2.le hW1)
   | _=>exact hq.elim
 case body =>
  intro l pre i a' W1 hl hr hI hA hlen
  exact Qlm hm hbx hbr hks ji hr hI hA (V0 hkp.size (V8 _)) hWs (fun o ho k H' hH' p hp=>(hd i.1 o ho k H' hH' p hp).imp id fun h=>hkl _ h) (fun b H' hM' hi hln hkb hge=>hbody l i.1 _ b H' W1 hM' i.2 (by rw[List.length_map];exact hlen) hi hr hln hkb hge)
 case done =>
  intro D ys W1 hD hys hI jA
  obtain⟨_,H',hi,hR⟩:=hI
  rw[hys]at hi
  have hD2:c.w0.heap.size≤D:=V0 hWs hD
  have hDn:D∉H'.map (·.1):=fun hm=>by
   obtain⟨p,hp,rfl⟩:=List.mem_map.1 hm
   have h1:=hR.hs.blk p hp
   rw[jA]at h1
   have h2:=hR.cells p hp
   rw[← Option.some.inj h1]at h2;cases h2
  refine hQ _ _ (YN (c:=c) od [{ target:=.collected D,args:=#[] }] tail (fun e a w=>bodyPostM Fence.wide 5 c.P fn R e (ad [{ target:=.collected D,args:=#[] }] a) w) _ htl (fun e a w h=>h) { tmps:=tm,defers:=[] } W1 ((hdone D H' hi hD2).h _ _ ⟨st.fr,hR.kp,hR.hs.cons jA hDn,fun p hp=>?_⟩))
  rcases List.mem_cons.1 hp with rfl|hp
  ·exact .inl hD2
  ·exact hR.wr p hp
 case stop =>
  intro D cd pre W1 hD hpre h jA
  obtain⟨rfl,hI⟩:=h
  obtain⟨_,H',hi,hR⟩:=hI
  rw[hpre]at hi
  have hD2:c.w0.heap.size≤D:=V0 hWs hD
  have hDn:D∉H'.map (·.1):=fun hm=>by
   obtain⟨p,hp,rfl⟩:=List.mem_map.1 hm
   have h1:=hR.hs.blk p hp
   rw[jA]at h1
   have h2:=hR.cells p hp
   rw[← Option.some.inj h1]at h2;cases h2
  refine wpIn_ret (hQr _ _ ((hstop D _ H' hi hD2).h { tmps:=tm,defers:=[] } W1 ⟨st.fr,hR.kp,hR.hs.cons jA hDn,fun p hp=>?_⟩))
  rcases List.mem_cons.1 hp with rfl|hp
  ·exact .inl hD2
  ·exact hR.wr p hp

end


theorem Qn9 {P:Program} {ops:Array Oper} {D:List Deferred} {next next':Act→World→Prop} {Q Q':Exit→Act→World→Prop} {i:Nat} {a:Act} {w:World} (hn:∀ a w,next a w→next' (ad D a) w) (hQ:∀ e a w,Q e a w→Q' e (ad D a) w) (h:wpOp P ops Q i next a w):wpOp P ops Q' i next' (ad D a) w:=by
 unfold wpOp at h ⊢
 cases ho:ops[i]? with
 | none =>
  simp only[ho]at h ⊢
  exact hn _ _ h
 | some o =>
  simp only[ho]at h ⊢
  have e:(ad D a).tmps=a.tmps:=rfl
  rw[e]
  split at h
  ·rename_i hw
   rw[if_pos hw]
   rcases h with h|⟨h,a',w',h'⟩
   ·refine .inl ?_
    unfold Oper.wp at h ⊢
    rw[Qjd]
    exact Qf5 hn hQ h
   ·exact .inr ⟨h,_,_,hQ _ _ _ h'⟩
  ·rename_i hw
   rw[if_neg hw,Qa5]
   exact hn _ _ h
theorem Qbl {P:Program} {md:Region.Mode} {ops:Array Oper} {D:List Deferred} {Q Q':Exit→Act→World→Prop} (hQ:∀ e a w,Q e a w→Q' e (ad D a) w):∀ (fuel:Nat) (listed:Array Bool) (a:Act) (w:World),wpAny P md ops Q fuel listed a w→wpAny P md ops Q' fuel listed (ad D a) w
 | 0,_,_,_,h=>⟨h.1,hQ _ _ _ h.2⟩
 | fuel+1,_,_,_,h=>⟨fun hr=>hQ _ _ _ (h.1 hr),fun i hi=>Qn9 (fun a w h=>Qbl hQ fuel _ a w h) hQ (h.2 i hi)⟩
theorem Q20 {c:Cx} {kd:Nat→Op→Kind} {Q Q':Exit→Act→World→Prop} {D:List Deferred} {id tail:Nat} {order:List Nat} {ops:Array Oper} {F:ak} {H Hs:aj} {a:Act} {w:World} (hQ:∀ e a w,Q e a w→Q' e (ad D a) w)
  (hm:c.P.follows .mixedOrders=true) (hB:XT c.P kd ops order tail=true) (st:St c F H a w) (iD:aI Hs w) (h:JL c (Q .normal) (.draw Hs true) (Qg kd ops tail order) F H) :
  (Code.region id ops true).wp c.P Q' (ad D a) w:=by
 simp only[XT,Bool.and_eq_true]at hB
 obtain⟨hs,ht,hal,hl,hc,hu⟩:=hB
 have hl:order.length=ops.size:=by simpa using hl
 refine wp_region_any hm (Qbl (Q:=Only (Q .normal)) (fun e a w h=>hQ _ _ _ (Only.up e a w h)) _ _ _ _ (XG (kd:=kd) (S:=Src c Hs) _ _ _ _ ?_))
 have st':St c F H a { w with drawn:=w.drawn+1 }:=⟨st.fr,st.kp.trans (Kp.drew _ _),st.hs.kp (Kp.drew [] w) au,st.wr⟩
 have hU:∀ i,i<ops.size→gX c.P kd ops i=true→Q0h c.P kd ops (Array.replicate ops.size false) i=true:=fun i hi hx=>by
  have:=List.all_eq_true.1 hu i (List.mem_range.2 hi)
  simpa [hx] using this
 refine sim (Q:=Only (Q .normal)) (K:=Q .normal) hs hU (fun a w h=>h) (fun ch a a' w h=>h.elim) order _ hc ht ops.size true _ H F (fun _=>none) a a _ h ?_ ?_
 ·refine⟨st',fun _=>iD.kp (Kp.drew [] w) au,⟨rfl,rfl,(fun e ob o d h=>by cases h),fun s _=>rfl⟩,⟨fun e ob h=>(by cases h),fun e ob h=>(by cases h),fun e ob o h=>(by cases h),fun e ob o h=>(by cases h),fun e b o h=>(by cases h),fun e b h=>(by cases h),fun e e' b h=>(by cases h)⟩,
   by simp,by simp,fun j hj=>by simp,fun j hj _=>?_,.inl rfl⟩
  have:=List.all_eq_true.1 hal j (List.mem_range.2 hj)
  simpa using this
 ·exact hl▸List.countP_le_length

def XC:Code→Bool
 | .region _ _ _=>true
 | .seq a b=>XC a && XC b
 | .cond _ a b=>XC a && XC b
 | .block _ a=>XC a
 | .loop a=>XC a
 | .exit _=>true
 | .skip=>true
 | .ret=>true
 | _=>false
theorem Qei {D:List Deferred} {Q Q':Exit→Act→World→Prop} {id:Nat} (hQ:∀ e a w,Q e a w→Q' e (ad D a) w):∀ e a w,Exit.inBlock id Q e a w→Exit.inBlock id Q' e (ad D a) w:=by
 intro e a w h
 cases e<;>simp only[Exit.inBlock]at h ⊢ <;> first|exact hQ _ _ _ h|(split at h<;>rename_i hc<;>simp only[hc,if_true,if_false]at h ⊢ <;> exact hQ _ _ _ h)

theorem ZN {c:Cx} (od:List Od) (D:List Deferred) (hm:c.P.follows .mixedOrders=true):∀ (s:Code) (Q Q':Exit→Act→World→Prop),XC s=true→okS c.P od s=true→(∀ e a w,Q e a w→Q' e (ad D a) w)→∀ a w,(toS od s).wp c Q a w→s.wp c.P Q' (ad D a) w
 | .region id ops false,Q,Q',_,_,hQ,a,w,h=>by
  obtain⟨F,H,st,h⟩:=h
  obtain⟨kd,hl,he⟩:=Xb (ay od id).ov ops ops.toList 0
  rw[he]at h
  have:=YP (P:=c.P) (ops:=ops) (Q:=Q) rfl _ F H h a w st
  rw[List.map_fst_zip oq]at this
  exact wp_region_list (Q13 hQ this)
 | .region id ops true,Q,Q',_,hk,hQ,a,w,h=>by
  obtain⟨F,H,Hs,st,iD,h⟩:=h
  exact Q20 hQ hm hk st iD h
 | .seq x y,Q,Q',ht,hk,hQ,a,w,h=>by
  simp only[XC,Bool.and_eq_true]at ht
  simp only[okS,Bool.and_eq_true]at hk
  refine wp_seq (ZN od D hm x _ _ ht.1 hk.1 (fun e a w hq=>?_) a w h)
  cases e<;>first|exact hQ _ _ _ hq|exact ZN od D hm y _ _ ht.2 hk.2 hQ _ _ hq
 | .cond x y z,Q,Q',ht,hk,hQ,a,w,h=>by
  simp only[XC,Bool.and_eq_true]at ht
  simp only[okS,Bool.and_eq_true]at hk
  obtain⟨t,hc,h1,h2⟩:=h
  exact wp_cond_split (a:=ad D a) hc (fun e=>ZN od D hm y _ _ ht.1 hk.1 hQ _ _ (h1 e)) (fun e=>ZN od D hm z _ _ ht.2 hk.2 hQ _ _ (h2 e))
 | .block id s,Q,Q',ht,hk,hQ,a,w,h=>wp_block (ZN od D hm s _ _ ht hk (Qei hQ) _ _ h)
 | .loop s,Q,Q',ht,hk,hQ,a,w,h=>by
  obtain⟨I,⟨n,h0⟩,hr⟩:=h
  refine W0 (fun n a' w=>∃ a,a'=ad D a∧I n a w) n ⟨a,rfl,h0⟩ ?_
  rintro n _ w ⟨a,rfl,hi⟩
  refine ZN od D hm s _ _ ht hk (fun e a w hq=>?_) _ _ (hr n a w hi)
  cases e<;>first|exact hQ _ _ _ hq|(obtain⟨m,hm',hi'⟩:=hq;exact⟨m,hm',_,rfl,hi'⟩)
 | .exit id,Q,Q',_,_,hQ,a,w,h=>wp_exit (hQ _ _ _ h)
 | .skip,Q,Q',_,_,hQ,a,w,h=>wp_skip (hQ _ _ _ h)
 | .ret,Q,Q',_,_,hQ,a,w,h=>wp_ret (hQ _ _ _ h)

section
variable {c:Cx} {Q:Exit→Act→World→Prop} {F:ak} {H:aj} {g:Operand} {p1 p2:Tmp} {assign body tail:Code} {gf:Nat} {lb:Array Value} {u v:Nat→Value} {N bx:Nat} {box:Obj} {ks:List Nat} {pr:World→Prop} {fn:Func} {R:Ending→World→Prop}

theorem Qj7 {wb:World} {od:List Od} (hm:c.P.follows .mixedOrders=true) {Iv Ir:List Nat→aj→Prop} (hbx:∀ k H',Iv k H'→(bx,box)∈H') (hbr:∀ k H',Ir k H'→(bx,box)∈H') (hks:∀ q∈ks,Stays wb q Iv Ir) {FA:Nat→ak} {ob:Option Obj} {B n0 l m:Nat} {pre:List {i:Nat // i<N}} {i:{i:Nat // i<N}} {a':Act} {W1:World} (ji:okB c.P od body=true) (hl:∃ r,W1.heap[l]?=some (.loop r)) (hI:RInv wb c n0 Iv pre W1) (hA:jF c.n n0 FA ob a' W1) (hn0:wb.heap.size≤n0) (hn1:c.w0.heap.size≤n0)
  (hbody:∀ b H' X hM',Iv (pre.map (·.1)) H'→(X=eH ob b++H'∨(X=H'∧n0≤b∧∃ o,ob=some o∧(b,o)∈H'))→l∉keys X→Kp [] wb W1→(∀ p∈X,wb.heap.size≤p.1)→JC ⟨c.P,c.n,W1,keys X,hM'⟩ (Q02 (Iv (pre.map (·.1)++[i.1])) (Ir (pre.map (·.1)++[i.1])) ⟨c.P,c.n,W1,keys X,hM'⟩) (toB l m od body) (FA b) X) :
  body.wpIn (Fence.wide.inRound l) m c.P (ownPostG B (KB ks) (RInv wb c n0 Iv) (fun cd xs W=>cd=.ret∧RInv wb c n0 Ir xs W) (pre++[i]) W1) a' W1:=by
 obtain⟨hsz,H0,hi,hR0⟩:=hI
 obtain⟨b,hA,hx⟩:=hA
 obtain⟨X,hX,hR,hsub⟩:∃ X,(X=eH ob b++H0∨(X=H0∧n0≤b∧∃ o,ob=some o∧(b,o)∈H0))∧RSt wb c X W1∧∀ p∈H0,p∈X:=by
  cases ob with
  | none=>exact⟨H0,.inl rfl,hR0,fun p hp=>hp⟩
  | some o =>
   by_cases hb:b∈keys H0
   ·obtain⟨p,hp,rfl⟩:=List.mem_map.1 hb
    have h1:=hR0.hs.blk p hp
    rw[hx.1]at h1
    cases h1
    exact⟨H0,.inr ⟨rfl,hx.2.1,_,rfl,hp⟩,hR0,fun p hp=>hp⟩
   ·refine⟨eH (some o) b++H0,.inl rfl,?_,fun p hp=>List.mem_append_right _ hp⟩
    obtain⟨hb1,hn,hc⟩:=hx
    refine⟨hR0.hs.cons hb1 hb,fun p hp=>?_,hR0.kp,hR0.kb,fun p hp=>?_,fun p hp=>?_⟩
    all_goals
     rcases List.mem_cons.1 hp with rfl|hp
    ·exact .inl (V0 hn1 hn)
    ·exact hR0.wr p hp
    ·exact V0 hn0 hn
    ·exact hR0.ge p hp
    ·exact hc
    ·exact hR0.cells p hp
 obtain⟨r,hr⟩:=hl
 have hln:l∉keys X:=fun hm'=>by
  obtain⟨p,hp,rfl⟩:=List.mem_map.1 hm'
  have h1:=hR.hs.blk p hp
  rw[hr]at h1
  have h2:=hR.cells p hp
  rw[← Option.some.inj h1]at h2;cases h2
 have hM':=Zk hR.hs
 refine wpIn_mono (Z8 (c:=⟨c.P,c.n,W1,keys X,hM'⟩) l m od hm body _ _ _ ji ((hbody b H0 X hM' hi hX hln hR.kb hR.ge).h _ _ ⟨hA,Kp.refl _ _,hR.hs,fun p hp=>.inr (List.mem_map.2 ⟨p,hp,rfl⟩)⟩)) (fun e a w hq=>?_)
 cases e with
 | normal =>
  obtain⟨F2,H2,hJ,hc2,st2⟩:=hq
  obtain⟨h1,h2,h3⟩:=XV (c2:=⟨c.P,c.n,W1,keys X,hM'⟩) B bx box hR rfl st2 hc2 (hsub _ (hbx _ _ hi)) (hbx _ _ hJ)
  exact⟨h1,fun q hq=>(by
   rcases hks q hq with h|⟨o,ho,_⟩
   ·exact(h3.kb.block q h au).trans (hR.kb.block q h au).symm
   ·exact(h3.hs.blk _ (ho _ _ hJ)).trans (hR0.hs.blk _ (ho _ _ hi)).symm),V0 hsz st2.kp.size,H2,by rw[Vl];exact hJ,h3⟩
 | ret =>
  obtain⟨F2,H2,hJ,hc2,st2⟩:=hq
  obtain⟨h1,h2,h3⟩:=XV (c2:=⟨c.P,c.n,W1,keys X,hM'⟩) B bx box hR rfl st2 hc2 (hsub _ (hbx _ _ hi)) (hbr _ _ hJ)
  exact⟨h1,rfl,V0 hsz st2.kp.size,H2,by rw[Vl];exact hJ,h3⟩
 | _=>exact hq.elim

theorem Q8k {od:List Od} (wb:World) (hwb:c.w0=wb) (hm:c.P.follows .mixedOrders=true) (hM:c.M=[]) (hg:ev F g=some (.func (.func gf) #[] lb)) (eg:∀ args w,(callFunc gf args).run c.P w=.ok (.enter gf args) w)
  (it:Qqd c.P gf lb u v N ks pr) (Iv Ir:List Nat→aj→Prop) (hbx:∀ k H',Iv k H'→(bx,box)∈H') (hbr:∀ k H',Ir k H'→(bx,box)∈H') (hks:∀ q∈ks,Stays wb q Iv Ir) (hcl:∀ k H',Iv k H'→Cells H') (H0:aj) (h0:Iv [] H0) (hH0:HSub H0 H) (hpr:∀ W,Kp [] wb W→aI H0 W→pr W) (FA:Nat→Nat→ak) (ob:Nat→Option Obj)
  (hp1:Nat.blt p1 c.n=true) (hp2:Nat.blt p2 c.n=true) (hoka:okB c.P od assign=true) (ji:okB c.P od body=true) (htl:XC tail=true) (hoks:okS c.P od tail=true) (hQ:∀ a w,tail.wp c.P (bodyPostM Fence.wide 5 c.P fn R) a w→Q .normal a w) (hQr:∀ a w,bodyPostM Fence.wide 5 c.P fn R .ret a w→Q .ret a w)
  (hassign:∀ l i W hW,JC ⟨c.P,c.n,W,[],hW⟩ (Q6r c.n (FA i) (ob i) ⟨c.P,c.n,W,[],hW⟩) (toB l 3 od assign) ((p2,v i)::(p1,u i)::F) [])
  (hbody:∀ l i pre b H' X W1 hM',i<N→pre.length<N→Iv pre H'→(X=eH (ob i) b++H'∨(X=H'∧b∉keys H0∧∃ o,ob i=some o∧(b,o)∈H'))→(∃ r,W1.heap[l]?=some (.loop r))→l∉keys X→Kp [] wb W1→(∀ p∈X,wb.heap.size≤p.1)→JC ⟨c.P,c.n,W1,keys X,hM'⟩ (Q02 (Iv (pre++[i])) (Ir (pre++[i])) ⟨c.P,c.n,W1,keys X,hM'⟩) (toB l 3 od body) (FA i b) X)
  (hdone:∀ D H',Iv (List.range N) H'→wb.heap.size≤D→JC c (fun e a w=>bodyPostM Fence.wide 5 c.P fn R e (ad [{ target:=.collected D,args:=#[] }] a) w) (toS od tail) F ((D,.deferred (some []))::H'))
  (hstop:∀ D k H',Ir (List.range k) H'→wb.heap.size≤D→JX c (fun e a w=>bodyPostM Fence.wide 5 c.P fn R e (ad [{ target:=.collected D,args:=#[] }] a) w) .ret F ((D,.deferred (some []))::H')) :
  JC c Q (.raw (.rangeFunc g #[p1,p2] assign body)) F H:=by
 subst hwb
 refine⟨fun a W st=>?_⟩
 obtain⟨tm,df⟩:=a
 obtain rfl:df=[]:=st.fr.defers
 have st0:=st.heap hH0
 have hkp:Kp [] c.w0 W:=by have:=st.kp;rwa [hM]at this
 have hI0:RInv (N:=N) c.w0 c W.heap.size Iv [] W:=⟨V8 _,H0,h0,st0.hs,st0.wr,st.kp,hkp,fun p hp=>(by
  rcases st0.wr p hp with h|h
  ·exact h
  ·rw[hM]at h;cases h),hcl _ _ h0⟩
 have hWs:c.w0.heap.size≤W.heap.size:=st.kp.size
 have hbxW:=st0.hs.blk _ (hbx _ _ h0)
 have hbxlt:bx<W.heap.size:=(Array.getElem?_eq_some_iff.1 hbxW).1
 have hkl:=Zk st0.hs
 have hkq:∀ q∈ks,q<W.heap.size:=fun q hq=>by
  rcases hks q hq with h|⟨o,ho,_⟩
  ·exact V7 h hkp.size
  ·exact hkl q (List.mem_map.2 ⟨_,ho _ _ h0,rfl⟩)
 refine wpIn_wide.1 (wpIn_rangeFunc_ownH (F:=Fence.wide) (n:=5) rfl oq (gf:=gf) (lb:=lb) (st.fr.ev hg) trivial eg
  (it 4 W oq (hpr W hkp st0.hs)) KB.trans (fun W' l o o' hl ho _ _ q hq=>?_) (Below.refl _ _) (fun _=>rfl)
  (RInv c.w0 c W.heap.size Iv) (fun cd xs W'=>cd=.ret∧RInv c.w0 c W.heap.size Ir xs W') (Q03 hWs hWs) (fun cd xs A B row hs hg hr=>⟨hs.1,Q03 hWs hWs xs A B row hs.2 hg hr⟩) hI0 (fun i a W'=>jF c.n W.heap.size (FA i.1) (ob i.1) a W') (fun _ _=>Q3t) ?assign ?body ?done ?stop)
 ·have iR:=hkq q hq
  exact World.putObj_heap_other (fun e=>by omega)
 case assign =>
  intro l pre i W1 K hI hK
  have hW1:W.heap.size≤W1.heap.size:=hI.1
  rw[zip2]
  refine wpIn_mono (Z8 (c:=⟨c.P,c.n,W1,[],by simp⟩) l 3 od hm assign _ _ _ hoka ((hassign l i.1 W1 au).h _ _ ⟨?_,Kp.refl _ _,⟨by simp,by simp⟩,fun p hp=>by cases hp⟩)) (fun e a w hq=>?_)
  ·exact(st.fr.set' (u i.1) hp1).set' (v i.1) hp2
  ·cases e with
   | normal =>
    obtain⟨h1,h2,h3⟩:=Qdx (B:=W.heap.size) hI hbx hq.1
    exact hK _ _ h1 (fun q hq'=>hq.1.block q (V7 (hkq q hq') hW1) au) h3 (hq.2.le hW1)
   | _=>exact hq.elim
 case body =>
  intro l pre i a' W1 hl hr hI hA hlen
  exact Qj7 hm hbx hbr hks ji hr hI hA (V0 hkp.size (V8 _)) hWs (fun b H' X hM' hi hX hln hkb hge=>hbody l i.1 _ b H' X W1 hM' i.2 (by rw[List.length_map];exact hlen) hi (hX.imp id fun h=>⟨h.1,fun hm=>by have:=hkl _ hm;omega,h.2.2⟩) hr hln hkb hge)
 case done =>
  intro D ys W1 hD hys hI jA
  obtain⟨_,H',hi,hR⟩:=hI
  rw[hys]at hi
  have hD2:c.w0.heap.size≤D:=V0 hWs hD
  have hDn:D∉H'.map (·.1):=fun hm=>by
   obtain⟨p,hp,rfl⟩:=List.mem_map.1 hm
   have h1:=hR.hs.blk p hp
   rw[jA]at h1
   have h2:=hR.cells p hp
   rw[← Option.some.inj h1]at h2;cases h2
  refine hQ _ _ (ZN (c:=c) od [{ target:=.collected D,args:=#[] }] hm tail (fun e a w=>bodyPostM Fence.wide 5 c.P fn R e (ad [{ target:=.collected D,args:=#[] }] a) w) _ htl hoks (fun e a w h=>h) { tmps:=tm,defers:=[] } W1 ((hdone D H' hi hD2).h _ _ ⟨st.fr,hR.kp,hR.hs.cons jA hDn,fun p hp=>?_⟩))
  rcases List.mem_cons.1 hp with rfl|hp
  ·exact .inl hD2
  ·exact hR.wr p hp
 case stop =>
  intro D cd pre W1 hD hpre h jA
  obtain⟨rfl,hI⟩:=h
  obtain⟨_,H',hi,hR⟩:=hI
  rw[hpre]at hi
  have hD2:c.w0.heap.size≤D:=V0 hWs hD
  have hDn:D∉H'.map (·.1):=fun hm=>by
   obtain⟨p,hp,rfl⟩:=List.mem_map.1 hm
   have h1:=hR.hs.blk p hp
   rw[jA]at h1
   have h2:=hR.cells p hp
   rw[← Option.some.inj h1]at h2;cases h2
  refine wpIn_ret (hQr _ _ ((hstop D _ H' hi hD2).h { tmps:=tm,defers:=[] } W1 ⟨st.fr,hR.kp,hR.hs.cons jA hDn,fun p hp=>?_⟩))
  rcases List.mem_cons.1 hp with rfl|hp
  ·exact .inl hD2
  ·exact hR.wr p hp

end


attribute [local go_sem] Oper.semAt_some

def aK (m:ZM) (i:Nat):Int:=if i<m.c then m.at i i else 0
theorem Qew {w w':World} {A:Option Addr} {n cap:Nat} {xs:List Int} {be:Nat} (h:WZ w (.slice A n cap) n xs) (hA:0<n→∀ x,A=some x→x.block=be) (hb:w'.heap[be]?=w.heap[be]?):WZ w' (.slice A n cap) n xs:=by
 obtain⟨h1,A',cap',he,h2,h3⟩:=h
 cases he
 refine⟨h1,A,cap,rfl,h2,fun h0=>⟨(h3 h0).1,fun j u hu=>?_⟩⟩
 have h4:=(h3 h0).2 j u hu
 obtain⟨⟨b0,o,rfl⟩,_⟩:=h3 h0
 have hbe:b0=be:=hA h0 _ rfl
 subst hbe
 exact(World.cell?_of_block (a:=⟨b0,o+j,none⟩) (by exact hb)).trans h4
theorem Qgx {r q:Nat} {ys:List {i:Nat // i<r}} (h:ys.map (·.1)=List.range q) {x:{i:Nat // i<r}} (hq:x.1=q):(ys++[x]).map (·.1)=List.range (ys++[x]).length:=by
 have hl:ys.length=q:=by have:=congrArg List.length h;rwa [List.length_map,List.length_range]at this
 rw[Vl,h,Vk,hl]
 show List.range q++[x.1]=List.range (q+1)
 rw[List.range_succ,hq]
theorem Qkt {W W':World} (h:Kp [] W W'):W.grownBy W' none:=⟨h.os,h.tape,h.output,h.size,fun k hk _=>h.block k hk au⟩

set_option maxRecDepth 100000 in
theorem Qhf (n:Nat) (hn:1≤n) (l bx be cap:Nat) (A:Option Addr) (m:ZM) (hm:cO m) (J Jx:List {i:Nat // i<m.r}→World→Prop)
  (hY : ∀ pre (x : {i : Nat // i < m.r}) W, J pre W → pre.length < m.r → YieldAt Fence.wide (n - 1) Tryz.prog l #[nv x.1, Wv (aK m x.1)] W fun e W' =>
   (e=.returned (.bool true)∧J (pre++[x]) W'∧KB [bx,be] W W')∨(e=.returned (.bool false)∧Jx (pre++[x]) W'))
  (W:World) (hJ:∀ pre W1 W2,J pre W1→Kp [] W1 W2→J pre W2) (hB:W.heap[bx]?=some (.cells #[nv m.r,nv m.c,.slice A (m.r*m.c) cap] 26)) (hE:WZ W (.slice A (m.r*m.c) cap) (m.r*m.c) m.e) (hA:0<m.r*m.c→∀ x,A=some x→x.block=be) (hbe:be<W.heap.size) (h0:J [] W) :
  CallsIn Fence.wide n Tryz.prog 114 #[.func (.yield l) #[] #[],.pointer (some ⟨bx,0,none⟩)] W fun e W'=>(∃ v,e=.returned v) ∧
   ((∃ ys:List {i:Nat // i<m.r},ys.map (·.1)=List.range m.r∧J ys W')∨(∃ pre:List {i:Nat // i<m.r},pre.map (·.1)=List.range pre.length∧Jx pre W')):=by
 have hb0:W.cell? ⟨bx,0,none⟩=some (nv m.r):=QP hB rfl
 have hb1:W.cell? ⟨bx,1,none⟩=some (nv m.c):=QP hB rfl
 have hb2:W.cell? ⟨bx,2,none⟩=some (.slice A (m.r*m.c) cap):=QP hB rfl
 have hr:=hm.r
 have hc:=hm.c
 have hlen:=hm.len
 refine callsIn_of_wp Tryz.func114 rfl trivial ?_ rfl
 simp only[Tryz.ntmps114,List.size_toArray,List.length_cons,List.length_nil,Nat.reduceAdd,Nat.reduceSub,Array.replicate_succ,Array.replicate_zero,List.push_toArray,List.append_toArray,Vv,Vi]
 gi_wp2
 gi_loopw [7] (fun i wr=>∃ q:Nat,q≤m.r∧i=.int .i64 (q:Int)∧(∃ ys:List {i:Nat // i<m.r},ys.map (·.1)=List.range q∧J ys wr)∧KB [bx,be] W wr)
  (fun i _=>(m.r-intOf i).toNat)
 case atStart=>exact⟨0,V9 _,by simp,⟨[],rfl,h0⟩,KB.refl _ _⟩
 case round =>
  obtain⟨q,hq,rfl,⟨ys,hys,hJs⟩,hnx⟩:=hrel
  have hw0:wr.cell? ⟨bx,0,none⟩=some (nv m.r):=(hnx.cell (p:=⟨bx,0,none⟩) au).trans hb0
  have hw1:wr.cell? ⟨bx,1,none⟩=some (nv m.c):=(hnx.cell (p:=⟨bx,1,none⟩) au).trans hb1
  have hw2:wr.cell? ⟨bx,2,none⟩=some (.slice A (m.r*m.c) cap):=(hnx.cell (p:=⟨bx,2,none⟩) au).trans hb2
  by_cases hlt:q<m.r
  ·have hlx:bx<wr.heap.size:=Xd hw0
   have hlk:∀ k∈[bx,be],k<wr.heap.size:=fun k hk=>by
    rcases List.mem_cons.1 hk with rfl|hk
    ·exact hlx
    ·cases List.mem_singleton.1 hk
     have h1:=hnx be au
     rw[Array.getElem?_eq_getElem hbe]at h1
     exact(Array.getElem?_eq_some_iff.1 h1).1
   obtain⟨W2,hW2⟩:∃ W2,W2=wr.alloc (.cells #[.bool false,.string ⟨#[]⟩] 35):=⟨_,rfl⟩
   have hk2:Kp [] wr W2:=by
    subst hW2
    exact⟨rfl,rfl,rfl,by simp,fun k hk _=>Below.heap_alloc _ _ _ hk⟩
   have hx0:W2.cell? ⟨bx,0,none⟩=some (nv m.r):=(World.cell?_of_block (a:=⟨bx,0,none⟩) (hk2.block bx hlx au)).trans hw0
   have hx1:W2.cell? ⟨bx,1,none⟩=some (nv m.c):=(World.cell?_of_block (a:=⟨bx,1,none⟩) (hk2.block bx hlx au)).trans hw1
   have hx2:W2.cell? ⟨bx,2,none⟩=some (.slice A (m.r*m.c) cap):=(World.cell?_of_block (a:=⟨bx,2,none⟩) (hk2.block bx hlx au)).trans hw2
   have hwE:WZ wr (.slice A (m.r*m.c) cap) (m.r*m.c) m.e:=Qew hE hA (hnx be au)
   have hv2:fO W2 (.agg #[nv m.r,nv m.c,.slice A (m.r*m.c) cap]) m:=⟨_,rfl,by rw[hlen];exact hwE.mono hk2⟩
   have hAt:CallsIn Fence.wide (n-1) Tryz.prog 64 #[.agg #[nv m.r,nv m.c,.slice A (m.r*m.c) cap],nv q,nv q] W2 (fun e w'=>e=.returned (Wv (atZ m q q))∧Kp [] W2 w'):=callsIn_wide.2 ((c_At W2 _ m (q:Int) (q:Int) hm hv2).mono fun e w' he=>by
    cases e<;>first|exact⟨by rw[he.2],he.1⟩|exact he.elim)
   have hkb2:KB [bx,be] wr W2:=fun k hk=>hk2.block k (hlk k hk) au
   have hnew:W2.heap[wr.heap.size]?=some (.cells #[.bool false,.string ⟨#[]⟩] 35):=by rw[hW2];exact World.alloc_heap_new _ _
   have iR:ys.length<m.r:=by have:=congrArg List.length hys;rw[List.length_map,List.length_range]at this;omega
   by_cases hqc:q<m.c
   ·subst hW2
    gi_wp2
    refine⟨trivial,CallsIn.mono hAt ?_⟩
    rintro e w1 ⟨rfl,hk3⟩
    have hnew1:=(hk3.block _ (Q4v hnew) au).trans hnew
    have hdi:Wv (atZ m q q)=.agg #[.bool (wz (aK m q)).1,sv (wz (aK m q)).2]:=by
     unfold aK
     rw[if_pos hqc,Qjb hlt hqc]
     rfl
    obtain⟨b0,s0,hbs⟩:∃ b0 s0,Wv (aK m q)=.agg #[.bool b0,.string s0]:=⟨_,_,rfl⟩
    have hdi2:Wv (atZ m q q)=.agg #[.bool b0,.string s0]:=hdi.trans hbs
    have hdv:=hbs
    have hc0:w1.cell? ⟨wr.heap.size,0,none⟩=some (.bool false):=QP hnew1 rfl
    have hf0:w1.frozen? ⟨wr.heap.size,0,none⟩=false:=by simp[World.frozen?,hnew1]
    have hW3:=heap_setCell_same w1 wr.heap.size 0 _ _ (Value.bool b0) hnew1
    have hc1:(w1.setCell ⟨wr.heap.size,0,none⟩ (Value.bool b0)).cell? ⟨wr.heap.size,1,none⟩=some (.string ⟨#[]⟩):=QP hW3 rfl
    have hf1:(w1.setCell ⟨wr.heap.size,0,none⟩ (Value.bool b0)).frozen? ⟨wr.heap.size,1,none⟩=false:=by simp[World.frozen?,hW3]
    have hW4:=heap_setCell_same (w1.setCell ⟨wr.heap.size,0,none⟩ (Value.bool b0)) wr.heap.size 1 _ _ (Value.string s0) hW3
    have hd0:((w1.setCell ⟨wr.heap.size,0,none⟩ (Value.bool b0)).setCell ⟨wr.heap.size,1,none⟩ (Value.string s0)).cell? ⟨wr.heap.size,0,none⟩=some (Value.bool b0):=QP hW4 rfl
    have hd1:((w1.setCell ⟨wr.heap.size,0,none⟩ (Value.bool b0)).setCell ⟨wr.heap.size,1,none⟩ (Value.string s0)).cell? ⟨wr.heap.size,1,none⟩=some (Value.string s0):=QP hW4 rfl
    have hk4:Kp [] wr ((w1.setCell ⟨wr.heap.size,0,none⟩ (Value.bool b0)).setCell ⟨wr.heap.size,1,none⟩ (Value.string s0)):=by
     have h5:=hk2.trans hk3
     refine⟨h5.os,h5.tape,h5.output,by simpa [World.setCell] using h5.size,fun k hk hm=>?_⟩
     rw[Below.heap_setCell _ _ _ _ (by simp;omega),Below.heap_setCell _ _ _ _ (by simp;omega)]
     exact h5.block k hk hm
    obtain⟨fn,tmps,assign,body,hy,hR⟩:=hY ys ⟨q,hlt⟩ _ (hJ _ _ _ hJs hk4) iR
    dsimp only at hy
    rw[hdv]at hy
    dsimp only
    rw[hdi2]
    clear hdv hdi hdi2 hbs
    gi_wp2
    refine hR.mono ?_
    rintro e W3 (⟨rfl,hJ3,hk5⟩|⟨rfl,hJx3⟩)
    ·gi_wp2
     go_roundw
     case rel=>exact⟨q+1,by omega,by simp,⟨_,by rw[Vl,hys,List.range_succ];rfl,hJ3⟩,hnx.trans (KB.trans (fun k hk=>hk4.block k (hlk k hk) au) hk5)⟩
     case measure=>first|(simp[intOf];done)|(simp[intOf];omega)
    ·gi_wp2
     refine bodyPost_ret (results_none rfl _ _ _) rfl ?_
     exact⟨⟨_,rfl⟩,.inr ⟨_,Qgx hys rfl,hJx3⟩⟩
   ·obtain⟨fn,tmps,assign,body,hy,hR⟩:=hY ys ⟨q,hlt⟩ W2 (hJ _ _ _ hJs hk2) iR
    have hz:Wv (aK m q)=.agg #[.bool false,.string ⟨#[]⟩]:=by
     unfold aK
     rw[if_neg hqc]
     exact Wz0
    dsimp only at hy
    rw[hz]at hy
    subst hW2
    gi_wp2
    refine hR.mono ?_
    rintro e W3 (⟨rfl,hJ3,hk3⟩|⟨rfl,hJx3⟩)
    ·gi_wp2
     go_roundw
     case rel=>exact⟨q+1,by omega,by simp,⟨_,by rw[Vl,hys,List.range_succ];rfl,hJ3⟩,hnx.trans (hkb2.trans hk3)⟩
     case measure=>first|(simp[intOf];done)|(simp[intOf];omega)
    ·gi_wp2
     refine bodyPost_ret (results_none rfl _ _ _) rfl ?_
     exact⟨⟨_,rfl⟩,.inr ⟨_,Qgx hys rfl,hJx3⟩⟩
  ·obtain rfl:q=m.r:=by omega
   gi_wp2
   go_end0
   exact⟨⟨_,rfl⟩,.inl ⟨ys,hys,hJs⟩⟩

theorem Q2c {cap bx be:Nat} {A:Option Addr} {m:ZM} (hm:cO m) (hA:0<m.r*m.c→∀ x,A=some x→x.block=be) :
  Qqd Tryz.prog 114 #[.pointer (some ⟨bx,0,none⟩)] (fun i=>nv i) (fun i=>Wv (aK m i)) m.r [bx,be] (fun W=>W.heap[bx]?=some (.cells #[nv m.r,nv m.c,.slice A (m.r*m.c) cap] 26)∧WZ W (.slice A (m.r*m.c) cap) (m.r*m.c) m.e∧be<W.heap.size):=fun n w hn hw l J Jx W hW hJ _ hY h0 =>
 Qhf n hn l bx be cap A m hm J Jx hY W (fun pre W1 W2 h1 h2=>hJ pre W1 W2 none h1 (Qkt h2) (fun r e=>by cases e)) ((hW.block bx (Q4v hw.1)).trans hw.1) (Qew hw.2.1 hA (hW.block be hw.2.2)) hA (V7 hw.2.2 hW.size) h0

set_option linter.unusedSimpArgs false
set_option linter.unusedVariables false
set_option linter.unusedSectionVars false

theorem Qb9 (w:World) (r c k cap:Nat) (A:Option Addr):Calls Tryz.prog 59 #[.agg #[nv r,nv c,.slice A k cap]] w (aP fun v w'=>Kp [] w w'∧∃ bx,v=.func (.func 114) #[] #[.pointer (some ⟨bx,0,none⟩)]∧New [(bx,.cells #[nv r,nv c,.slice A k cap] 26 (0,0))] w w'):=by
 refine Q9 [] [] au [] Tryz.func59 rfl mixed (by kernel_rfl) Tryz.ntmps59 Tryz.results59 rfl ⟨by simp,by simp⟩ au ?_
 simp only[toS,Qd,Qt,Qk,Ql,ay,Qg,QA,aC]
 repeat' first|apply jS|apply jO|apply jN|apply jT|refine Q0 ?_|refine QB fun _=>?_|refine XO (h:=?_)|apply jR
 exact Qn rfl (fun a w' st=>⟨st.kp,_,rfl,st.aS rfl HSub.hd⟩)

section
variable {c:Cx} {Q:Exit→Act→World→Prop} {F:ak} {H Hs:aj} {r:List dA} {g:Option (Option Tmp × Bool)} {ns:Bool} {ty t:TypeId} {x y:Operand}
theorem Q1b {b:Nat} (k:Nat) {cs:Array Value} {T:TypeId} {v:Value} [T1 c.P t] (hg:Qh F g=some true) (hx:ev F x=some (.pointer (some ⟨b,0,none⟩))) (hy:ev F y=some v)
  (hb:H[k]?=some (b,.cells cs T (0,0))) (hc:v.cells.toList=[v]) (hv:v.oneCell'=true) (hl:0<cs.size) (iD:HSub Hs (H.set k (b,.cells (cs.setIfInBounds 0 v) T (0,0)))) (h:JO c Q (.draw Hs true) r F (H.set k (b,.cells (cs.setIfInBounds 0 v) T (0,0)))) :
  JO c Q (.draw Hs true) (⟨none,.store t x y,ty,g,.seq,ns⟩::r) F H:=by
 refine⟨⟨rfl,.inr ⟨hg,fun a w st _=>?_⟩⟩⟩
 have hm':(b,Obj.cells cs T (0,0))∈H:=List.mem_of_getElem? hb
 obtain⟨w',h1,h2,h3,h4,h5,h6,h7⟩:=Q0k (P:=c.P) (t:=t) (n:=1) T1.size (o:=0) (v:=v) (w:=w) (by rw[show v.cells.size=v.cells.toList.length by simp,hc];rfl) (by rw[hc];intro u hu;cases List.mem_singleton.1 hu;exact hv) (st.hs.blk _ hm') oq
 rw[hc]at h2
 obtain⟨st',hstep⟩:=Qg5 st hb h2 h3 h4 h5 h6 h7
 unfold Oper.wp dA.oper
 simp only[execOp,st.fr.ev hx,st.fr.ev hy,Sem.run_bind,h1,Result.andThen_ok,Sem.run_pure]
 exact⟨hstep,F,_,.draw Hs true,st',fun j hj=>.inl (Q7q hb j hj),⟨rfl,fun _=>⟨rfl,iD.bU st'.hs⟩,fun _=>rfl,.inl rfl⟩,h.h⟩
end

def eqC (m n:Nat) (E1 E2 E3 E4 E5 E6:Value):Array Value:=#[nv m,nv m,E1,nv m,nv m,E2,nv m,nv n,E3,nv n,nv n,E4,nv n,nv n,E5,E6]
def YC (D:ZM) (cs:List Int):Option Nat:=(List.range D.r).find? fun i=>decide (¬aK D i∣cs.getD i 0)
def Q2o (D:ZM) (cs:List Int):Value:=match YC D cs with
 | none=>.tuple #[iv 0,Wv 0,.bool false]
 | some i=>.tuple #[nv i,Wv (aK D i),.bool true]

theorem Qe9 {k i:Nat} {l:List Nat} (h:List.range k=l++[i]):l=List.range i:=by
 cases k with
 | zero=>exact absurd (congrArg List.length h) au
 | succ k =>
  rw[List.range_succ]at h
  obtain⟨h1,h2⟩:=List.append_inj' h rfl
  cases h2
  exact h1.symm
theorem Qao {n i:Nat} (h:i<n):∃ r,List.range n=List.range i++i::r:=by
 obtain⟨d,rfl⟩:∃ d,n=i+1+d:=⟨n-i-1,by omega⟩
 refine⟨(List.range d).map (i+1+·),?_⟩
 rw[List.range_add,List.range_succ,Vd]
 rfl
theorem Qe0 {D:ZM} {cs:List Int} {k i:Nat} {l:List Nat} (hk:List.range k=l++[i]) (hi:i<D.r) (hpd:∀ j∈l,aK D j∣cs.getD j 0) (hnd:¬aK D i∣cs.getD i 0):YC D cs=some i:=by
 obtain⟨r,hr⟩:=Qao hi
 obtain rfl:=Qe9 hk
 unfold YC
 rw[hr,List.find?_append]
 have h1:(List.range i).find? (fun i=>decide (¬aK D i∣cs.getD i 0))=none:=by
  rw[List.find?_eq_none]
  intro j hj
  simpa using hpd j hj
 rw[h1,List.find?_cons]
 simp only[hnd,not_false_eq_true,decide_true]
 rfl

theorem Qb7 (K:Nat) (w0:World) (E1 E2 E3 E4 E5 E6:Value) (D:ZM) (m n:Nat) (cs:List Int) (hm:cO D) (hmr:D.r=m) (hnc:D.c=n) (hv:WZ w0 E3 (m*n) D.e) (hE:WZ w0 E6 m cs) (hK:K≤26000000000000) (hx:cZ K D) (hy:fK K cs) :
  Calls Tryz.prog 72 #[.agg (eqC m n E1 E2 E3 E4 E5 E6)] w0 (aP fun v w'=>Kp [] w0 w'∧v=Q2o D cs):=by
 subst hmr hnc
 obtain⟨A3,c3,rfl⟩:=hv.form
 obtain⟨A6,c6,rfl⟩:=hE.form
 have hr:=hm.r
 unfold eqC
 refine Xf 5 [⟨5,2,[],[]⟩] Tryz.func72 rfl mixed (by kernel_rfl) Tryz.ntmps72 au ?_
 simp only[toZ,Q39,Bool.or_false,Bool.false_or,Bool.or_self,Bool.true_or,cond_true,cond_false,toS,Qd,Qt,Qk,Ql,ay,Qg,QA,aC]

 repeat' first|apply jS|apply jO|apply jN|refine Q3 ?_|refine Qc fun _=>?_|refine QB fun _=>?_|apply jT
 rename_i b1 b2 b3 b4
 refine Wz 3 rfl aH rfl rfl rfl rfl rfl rfl ?_
 skip
 refine Qf (A:=[]) rfl trivial rfl rfl rfl (fun w hk _=>Qb9 w D.r D.c (D.r*D.c) c3 A3) fun w v w' _ _ _ hR=>?_
 obtain⟨bx,rfl,hNx⟩:=hR
 refine⟨_,hNx,?_⟩
 repeat' first|apply jN|apply jT|apply jB
 obtain⟨be,hbe,hA3⟩:∃ be,(be<w0.heap.size∨be=bx)∧(0<D.r*D.c→∀ x,A3=some x→x.block=be):=by
  by_cases h0:0<D.r*D.c
  ·have hb:=Qbk hv h0
   obtain⟨_,A',c',he,_,h3⟩:=hv
   cases he
   obtain⟨⟨b0,o,rfl⟩,_⟩:=h3 h0
   exact⟨b0,.inl hb,fun _ x h=>by cases h;rfl⟩
  ·exact⟨bx,.inr rfl,fun h=>absurd h h0⟩
 refine Q35 (od:=[⟨5,2,[],[]⟩]) _ rfl mixed rfl rfl (enters_of Tryz.func114 (by kernel_rfl) rfl) (Q2c hm hA3)
  (fun pre H'=>H'=[(bx,.cells #[nv D.r,nv D.c,.slice A3 (D.r*D.c) c3] 26 (0,0)),(b4,.cells #[.bool false] 4 (0,0)),(b3,.cells #[.bool false,.string ⟨#[]⟩] 35 (0,0)),(b2,.cells #[iv 0] 3 (0,0)),(b1,.cells (eqC D.r D.c E1 E2 (.slice A3 (D.r*D.c) c3) E4 E5 (.slice A6 D.r c6)) 91 (0,0))]∧∀ j∈pre,aK D j∣cs.getD j 0)
  (fun pre H'=>∃ l i,pre=l++[i]∧H'=[(bx,.cells #[nv D.r,nv D.c,.slice A3 (D.r*D.c) c3] 26 (0,0)),(b4,.cells #[.bool true] 4 (0,0)),(b3,.cells #[.bool (wz (aK D i)).1,sv (wz (aK D i)).2] 35 (0,0)),(b2,.cells #[nv i] 3 (0,0)),(b1,.cells (eqC D.r D.c E1 E2 (.slice A3 (D.r*D.c) c3) E4 E5 (.slice A6 D.r c6)) 91 (0,0))]∧i<D.r∧(∀ j∈l,aK D j∣cs.getD j 0)∧¬aK D i∣cs.getD i 0)
  (by rintro k _ ⟨rfl,_⟩;exact Vh) (by rintro k _ ⟨l,i,_,rfl,_⟩;exact Vh)
  (fun q hq => by
   rcases List.mem_cons.1 hq with rfl|hq
   ·exact .inr ⟨_,fun k H' h=>by rw[h.1];exact Vh,fun k H' h=>by obtain⟨l,i,_,rfl,_⟩:=h;exact Vh⟩
   ·cases List.mem_singleton.1 hq
    rcases hbe with h|rfl
    ·exact .inl h
    ·exact .inr ⟨_,fun k H' h=>by rw[h.1];exact Vh,fun k H' h=>by obtain⟨l,i,_,rfl,_⟩:=h;exact Vh⟩)
  (by rintro k _ ⟨rfl,_⟩;exact Cells.cons (Cells.cons (Cells.cons (Cells.cons (Cells.cons Cells.nil))))) _ ⟨rfl,fun j h=>by cases h⟩ Qy
  (fun W hk hs => ⟨hs.blk _ Vh, hv.mono hk, by
   rcases hbe with h|rfl
   ·exact V7 h hk.size
   ·exact Q4v (hs.blk _ Vh)⟩)
  (fun i b=>[(5,nv i),(6,.pointer (some ⟨b,0,none⟩)),(4,.pointer (some ⟨b4,0,none⟩)),(3,.pointer (some ⟨b3,0,none⟩)),(2,.pointer (some ⟨b2,0,none⟩)),(1,.pointer (some ⟨b1,0,none⟩))])
  (fun i=>some (.cells #[.bool (wz (aK D i)).1,sv (wz (aK D i)).2] 35 (0,0))) (fun i o _ k H' h p hp=>.inr (by rw[h.1]at hp;exact List.mem_map.2 ⟨p,hp,rfl⟩)) rfl rfl (by kernel_rfl) (by kernel_rfl) rfl (fun _ _ h=>h) (fun _ _ h=>h) ?_ ?_ ?_ ?_
 ·intro l i W hW
  simp only[toB,Qd,Qt,Qk,Ql,ay,Qg,QA,eH,Vv,Vi]
  repeat' first|apply jS|apply jO|apply jN|refine Q0 ?_|refine Q2 ?_|refine Qc fun _=>?_|refine Q2 ?_|apply jT
  exact Q04 0 rfl rfl rfl aF
 ·rintro l i pre b _ W1 hM' hi hpl ⟨rfl,hpd⟩ hl hln hkb hge
  simp only[toB,Qd,Qt,Qk,Ql,ay,Qg,QA,eH,Vv,Vi]
  have hoth:=Q79 (c2:=⟨Tryz.prog,24,W1,_,hM'⟩) hE hkb (Q4x hge) []
  have hdb:(aK D i).natAbs<256 ^ K:=by
   unfold aK
   split
   ·exact hx.at i i
   ·exact bG K
  unfold eqC
  repeat' first|apply jS|apply jD|refine Q1 ?_|refine Q3 ?_|refine Qb ?_|refine Q7 ?_|refine Zn (h:=?_)|refine XD (h:=?_)|apply jB
  refine Q5 aA rfl aH rfl (fun w _ _=>Qsi w _ _ (aK D i) (cs.getD i 0) K (Qi hdb) (Qi (hy i)) oq) fun w v w' _ _ _ hR=>?_
  subst hR
  by_cases hdv:aK D i∣cs.getD i 0
  ·rw[decide_eq_true hdv]
   repeat' first|apply jN|apply jT|refine QV (h:=?_)|apply jK|refine Q4 rfl ?_|apply jW
   exact ZT ⟨rfl,fun j hj=>by
    rcases List.mem_append.1 hj with h|h
    ·exact hpd j h
    ·cases List.mem_singleton.1 h;exact hdv⟩ (Cells.cons (Cells.cons (Cells.cons (Cells.cons (Cells.cons Cells.nil))))) (HSub.skip (HSub.refl _))
  ·rw[decide_eq_false hdv]
   repeat' first|apply jS|apply jN|apply jT|refine QV (h:=?_)|refine Q8 rfl ?_
   refine Z7 [(b,.cells #[.bool (wz (aK D i)).1,sv (wz (aK D i)).2] 35)] Qy ?_
   repeat' first|refine Q1 ?_|refine Q7 ?_|fail
   refine Q1b 4 rfl rfl rfl rfl rfl rfl dq HSub.hd ?_
   refine ZW 3 rfl rfl rfl rfl rfl rfl rfl HSub.hd ?_
   refine Q1b 2 rfl rfl rfl rfl rfl rfl dq HSub.hd ?_
   repeat' first|apply jN|apply jT|apply jR|apply QT
   exact Qbi ⟨pre,i,rfl,rfl,hi,hpd,hdv⟩ (Cells.cons (Cells.cons (Cells.cons (Cells.cons (Cells.cons Cells.nil))))) (HSub.skip (HSub.refl _))
 ·rintro D' _ ⟨rfl,hpd⟩ hD
  simp only[toS,Qd,Qt,Qk,Ql,ay,Qg,QA]
  repeat' first|apply jS|apply jO|apply jN|apply jT|refine Q2 ?_|refine Zh (h:=?_)|refine Q2 ?_|refine ZO (k:=_) (h:=?_)|apply jR
  refine XW 0 rfl hD rfl ?_
  have hnone:Q2o D cs=.tuple #[iv 0,Wv 0,.bool false]:=by
   have:YC D cs=none:=by
    unfold YC
    rw[List.find?_eq_none]
    intro j hj
    simpa using hpd j hj
   unfold Q2o
   rw[this]
  refine YI [iv 0,.agg #[.bool false,.string ⟨#[]⟩],.bool false] (Q05 3 rfl rfl rfl (ZU 2 rfl rfl rfl (Q05 1 rfl rfl rfl JR.nil))) (fun a w' st=>⟨st.kp,?_⟩)
  rw[hnone,Wz0]
  rfl
 ·rintro D' k _ ⟨l,i,hk,rfl,hir,hpd,hnd⟩ hD
  refine XW 0 rfl hD rfl ?_
  have hsome:Q2o D cs=.tuple #[nv i,Wv (aK D i),.bool true]:=by
   have:YC D cs=some i:=Qe0 hk hir hpd hnd
   unfold Q2o
   rw[this]
  refine YI [nv i,Wv (aK D i),.bool true] (Q05 3 rfl rfl rfl (ZU 2 rfl rfl rfl (Q05 1 rfl rfl rfl JR.nil))) (fun a w' st=>⟨st.kp,?_⟩)
  rw[hsome]
  rfl


def Qsx (m n:Nat) (S:Sm) (cs:List Int) (w:World) (v:Value) (w':World):Prop :=
 ∃ N1 N2 N3 N4 N5 N6 E1 E2 E3 E4 E5 E6,v=.tuple #[.agg (eqC m n E1 E2 E3 E4 E5 E6),.bool true]∧Dm m n S∧New (N6++(N1++(N2++(N3++(N4++N5))))) w w'∧aG N1 E1 (m*m) S.u.flatten∧aG N3 E3 (m*n) S.d.flatten∧aG N4 E4 (n*n) S.v.flatten∧aG N6 E6 m cs∧(∃ A c,E2=.slice A (m*m) c)∧(∃ A c,E5=.slice A (n*n) c)

theorem Xz {K r c:Nat} {g:List (List Int)} (h:Rec r c g) (hg:jk K g=true) (hr:r≤200) (hc:c≤200):cZ K (gM r c g):=by
 rw[← Qqe (Wt h hr hc)]
 refine cZ.of fun i j hi hj=>?_
 rw[← Qjb hi hj,Qp3 h hi hj]
 exact Zp hg i j

theorem Qit (K fc f L:Nat) (w:World) (v u:Value) (a:ZM) (bs:List Int) (S':Sm) (ha:cO a) (hv:fO w v a) (hu:WZ w u a.r bs) (hK:K+1+K+1+L≤26000000000000) (hb:cZ (K+1) a) (hL:fK L bs)
  (hf:ZF (K+1) fc f a.r a.c (min a.r a.c) 0 (QY a.r a.c (QZ a))=some S') :
  Calls Tryz.prog 71 #[v,u] w (aP fun v w'=>Kp [] w w'∧Qsx a.r a.c S' (bI (gM a.r a.r S'.u) bs) w v w'):=by
 have hv0:=hv
 have jI:=hv.x
 have hr:=ha.r
 have hac:=ha.c
 have hbl:bs.length=a.r:=by simpa using hu.len
 have hbS:=YL hf (Yi ha hb)
 obtain⟨E,rfl,hE⟩:=hv
 obtain⟨A0,c0,rfl⟩:=hE.form
 obtain⟨A1,c1,rfl⟩:=hu.form
 refine Q9 [⟨4,2,[],[]⟩] [] au [] Tryz.func71 rfl mixed (by kernel_rfl) Tryz.ntmps71 Tryz.results71 rfl ⟨by simp,by simp⟩ au ?_
 simp only[toS,Qd,Qt,Qk,Ql,ay,Qg,QA,aC]
 repeat' first|apply jS|apply jO|apply jN|refine Q0 ?_|refine Q7 ?_|refine Qc fun _=>?_|refine QB fun _=>?_|apply jT
 rename_i b2 b4
 refine Q5 trivial rfl rfl rfl (fun w hk _=>YY w _ a.xm (jI.mono hk) (by have:=Q08 ha;omega)) fun w v w' _ _ _ hR=>?_
 obtain⟨b',rfl,hb'⟩:=hR
 obtain rfl:=hb'.2 ha.rx
 repeat' first|apply jS|apply jO|apply jN|apply jT|refine Q1 ?_|refine Q3 ?_|refine Qb ?_|refine Q7 ?_|refine Zv (h:=?_)|refine QC (h:=?_)|refine QV (h:=?_)|(refine Ze (h1:=?_) (h2:=?_)<;>intro hc<;>try omega)|apply jK|refine Q4 rfl ?_
 all_goals first
  | (exfalso;omega)
  | skip
 refine Qf (A:=[_,_]) (B:=[]) rfl aA rfl aH rfl (fun w hk hs=>Qds K fc f w _ a S' ha (hv0.mono hk) oq hb hf) fun w v w' _ _ _ hR=>?_
 obtain⟨N1,N2,N3,N4,N5,E1,E2,E3,E4,E5,rfl,hD,hN,bT,hO2,hO3,hO4,iL⟩:=hR
 obtain⟨A1',c1',rfl⟩:=bT.form
 obtain⟨A2',c2',rfl⟩:=hO2.form
 obtain⟨A3',c3',rfl⟩:=hO3.form
 obtain⟨A4',c4',rfl⟩:=hO4.form
 obtain⟨A5',c5',rfl⟩:=iL.form
 refine⟨_,hN,?_⟩
 unfold smC
 repeat' first|apply jS|apply jD|apply jN|refine Q3 ?_|refine Q2 ?_|refine Qc fun _=>?_|refine Q2 ?_|apply jT
 have hUr:cO (gM a.r a.r S'.u):=Wt hD.u hr hr
 have hO1z:aG N1 (.slice A1' (a.r*a.r) c1') (gM a.r a.r S'.u).e.length (gM a.r a.r S'.u).e:=by rw[show (gM a.r a.r S'.u).e.length=a.r*a.r from XA hD.u];exact bT
 have hUb:cZ (K+1) (gM a.r a.r S'.u):=Xz hD.u hbS.u hr hr
 refine Wz 0 rfl aH rfl rfl rfl rfl rfl rfl ?_
 repeat' first|refine Q1 ?_|fail
 refine Qf (A:=[_,_,_]) (B:=(N1++(N2++(N3++(N4++N5)))++[])) rfl aA rfl aH rfl (fun w hk hs=>Qis L w _ a.r bs (hu.mono hk) oq oq hL) fun w v w' _ _ _ hR=>?_
 obtain⟨N7,hN7,hO7⟩:=hR
 obtain⟨A7,c7,rfl⟩:=hO7.form
 refine⟨N7,hN7,?_⟩
 skip
 refine Qf (A:=[_,_,_]) (B:=N7++(N1++(N2++(N3++(N4++N5)))++[])) rfl aA rfl aH rfl (fun w hk hs=>Qbd (K+1) L w _ _ (gM a.r a.r S'.u) bs hUr hbl.symm oq hUb hL ⟨_,rfl,hO1z.rd.at hk hs (HSub.skip (HSub.skip (HSub.skip (by simp only[Vj];first|exact Qr QI|exact Qr (Qr QI)))))⟩ (by rw[hbl];exact hO7.rd.at hk hs Q6)) fun w v w' _ _ _ hR=>?_
 obtain⟨N6,E6,hN6,rfl,gY⟩:=hR
 rw[Q7o]at gY
 obtain⟨A6,c6,rfl⟩:=gY.form
 refine⟨N6,hN6,?_⟩
 repeat' first|apply jS|apply jO|apply jN|refine Q1 ?_|refine Q0 ?_|refine Q7 ?_|refine Qv (h:=?_)|apply jT
 refine ZP (l:=[(0,.agg #[nv a.r,nv a.r,.slice A1' (a.r*a.r) c1',nv a.r,nv a.r,.slice A2' (a.r*a.r) c2',nv a.r,nv a.c,.slice A3' (a.r*a.c) c3',nv a.c,nv a.c,.slice A4' (a.c*a.c) c4',nv a.c,nv a.c,.slice A5' (a.c*a.c) c5']),(1,.slice A6 (bI (gM a.r a.r S'.u) bs).length c6)]) (cs:=eqC a.r a.c (.slice A1' (a.r*a.r) c1') (.slice A2' (a.r*a.r) c2') (.slice A3' (a.r*a.c) c3') (.slice A4' (a.c*a.c) c4') (.slice A5' (a.c*a.c) c5') (.slice A6 (bI (gM a.r a.r S'.u) bs).length c6)) rfl rfl rfl (by kernel_rfl) ?_
 unfold eqC
 repeat' first|apply jN|apply jT|refine Q1 ?_|refine Q0 ?_|refine Q2 ?_|refine Q2 ?_|apply jR
 refine X8 1 rfl rfl rfl rfl (fun a' w' st=>⟨st.kp,N1,N2,N3,N4,N5,N6,_,_,_,_,_,_,rfl,hD,st.aS rfl ?_,bT,hO3,hO4,?_,⟨_,_,rfl⟩,⟨_,_,rfl⟩⟩)
 ·exact HSub.skip (HSub.skip (HSub.skip (by simp only[Vj];exact ZX (Qr (HSub.refl _)))))
 ·have:=gY
  rw[Yk]at this ⊢
  exact this


def solE (D:ZM) (cs:List Int) (i:Nat):Int:=if aK D i=0 then 0 else cs.getD i 0 / aK D i
def gW (D:ZM) (cs:List Int) (n:Nat) (pre:List Nat):List Int:=tab n fun i=>if i∈pre then solE D cs i else 0
theorem Qfl {D:ZM} {cs:List Int} {n k:Nat} {pre:List Nat} (hd:aK D k≠0):(gW D cs n pre).set k (cs.getD k 0 / aK D k)=gW D cs n (pre++[k]):=by
 unfold gW
 rw[Qac]
 refine Y0 fun i hi=>?_
 by_cases h:i=k
 ·subst h
  rw[if_pos rfl,if_pos au]
  unfold solE
  rw[if_neg hd]
 ·rw[if_neg h]
  by_cases h2:i∈pre
  ·rw[if_pos h2,if_pos (by simp[h2])]
  ·rw[if_neg h2,if_neg (by simp[h2,h])]
theorem Qfm {D:ZM} {cs:List Int} {n k:Nat} {pre:List Nat} (hd:aK D k=0):gW D cs n pre=gW D cs n (pre++[k]):=Y0 fun i hi=>by
 by_cases h:i∈pre
 ·rw[if_pos h,if_pos (by simp[h])]
 ·by_cases h2:i=k
  ·subst h2
   rw[if_neg h,if_pos au]
   unfold solE
   rw[if_pos hd]
  ·rw[if_neg h,if_neg (by simp[h,h2])]
theorem Qfk (D:ZM) (cs:List Int) (n:Nat):gW D cs n []=tab n fun _=>0:=Y0 fun i hi=>by rw[if_neg au]
theorem Qsf {L:Nat} {a b:Int} (h:a.natAbs<256 ^ L):(a / b).natAbs<256 ^ L:=V5 (Int.natAbs_ediv_le_natAbs a b) h
theorem Qfn {L:Nat} {D:ZM} {cs:List Int} {n:Nat} {pre:List Nat} (h:fK L cs):fK L (gW D cs n pre):=fun i=>by
 by_cases hi:i<n
 ·unfold gW
  rw[Zq hi]
  split
  ·unfold solE
   split
   ·exact XZ _
   ·exact Qsf (h i)
  ·exact XZ _
 ·rw[List.getD,List.getElem?_eq_none (by unfold gW;rw[W6];omega)];exact XZ _
theorem Qjr (D:ZM) (cs:List Int) (n:Nat) (pre:List Nat):(gW D cs n pre).length=n:=W6 _ _
theorem Qmb {N:aj} {A:Option Addr} {n cap:Nat} {xs:List Int} (h:aG N (.slice A n cap) n xs) (d:Nat):∃ be,(be=d∨∃ o,(be,o)∈N)∧(0<n→∀ x,A=some x→x.block=be):=by
 obtain⟨_,⟨h1,h2,h3⟩|⟨b,cap',cur,h1,h3,_⟩⟩:=h
 ·exact⟨d,.inl rfl,fun _ x hx=>by simp at h1;rw[h1.1]at hx;cases hx⟩
 ·refine⟨b,.inr ⟨_,by rw[h3];exact Vh⟩,fun _ x hx=>by simp at h1;rw[h1.1]at hx;cases hx;rfl⟩
def solV (S:Sm) (m n:Nat) (bs:List Int):List Int:=bI (gM n n S.v) (gW (gM m n S.d) (bI (gM m m S.u) bs) n (List.range m))

theorem Q8b (K fc f L:Nat) (w0:World) (v u:Value) (a:ZM) (bs:List Int) (S':Sm) (ha:cO a) (hv:fO w0 v a) (hu:WZ w0 u a.r bs) (hK:K+1+K+1+L+2≤26000000000000) (hb:cZ (K+1) a) (hL:fK L bs)
  (hf:ZF (K+1) fc f a.r a.c (min a.r a.c) 0 (QY a.r a.c (QZ a))=some S') (hw:YC (gM a.r a.c S'.d) (bI (gM a.r a.r S'.u) bs)=none) :
  Calls Tryz.prog 37 #[v,u] w0 (aP fun v w'=>Kp [] w0 w'∧∃ N E,New N w0 w'∧v=.tuple #[E,.bool true]∧aG N E a.c (solV S' a.r a.c bs)):=by
 have hv0:=hv
 have hr:=ha.r
 have hac:=ha.c
 have hbS:=YL hf (Yi ha hb)
 obtain⟨E,rfl,hE⟩:=hv
 obtain⟨A0,c0,rfl⟩:=hE.form
 obtain⟨A1,c1,rfl⟩:=hu.form
 refine Xf 5 [⟨12,2,[],[]⟩] Tryz.func37 rfl mixed (by kernel_rfl) Tryz.ntmps37 au ?_
 simp only[toZ,Q39,Bool.or_false,Bool.false_or,Bool.or_self,Bool.true_or,cond_true,cond_false,toS,Qd,Qt,Qk,Ql,ay,Qg,QA,aC]

 repeat' first|apply jS|apply jO|apply jN|refine Q1 ?_|refine Q0 ?_|refine Q7 ?_|refine QB fun _=>?_|apply jT
 rename_i b2
 refine Qf (A:=[_]) (B:=[]) rfl aA rfl aH rfl (fun w hk hs=>Qit K fc f L w _ _ a bs S' ha (hv0.mono hk) (hu.mono hk) oq hb hL hf) fun w v w' _ _ _ hR=>?_
 obtain⟨N1,N2,N3,N4,N5,N6,E1,E2,E3,E4,E5,E6,rfl,hD,hN,bT,hO3,hO4,gY,⟨A2',c2',rfl⟩,⟨A5',c5',rfl⟩⟩:=hR
 obtain⟨A1',c1',rfl⟩:=bT.form
 obtain⟨A3',c3',rfl⟩:=hO3.form
 obtain⟨A4',c4',rfl⟩:=hO4.form
 obtain⟨A6',c6',rfl⟩:=gY.form
 refine⟨_,hN,?_⟩
 have hUr:cO (gM a.r a.r S'.u):=Wt hD.u hr hr
 have hDr:cO (gM a.r a.c S'.d):=Wt hD.d hr hac
 have hVr:cO (gM a.c a.c S'.v):=Wt hD.v hac hac
 have hUb:cZ (K+1) (gM a.r a.r S'.u):=Xz hD.u hbS.u hr hr
 have hDb:cZ (K+1) (gM a.r a.c S'.d):=Xz hD.d hbS.d hr hac
 have hVb:cZ (K+1) (gM a.c a.c S'.v):=Xz hD.v hbS.v hac hac
 have hcb:fK (K+1+L+1) (bI (gM a.r a.r S'.u) bs):=Q0w hUr hUb hL
 obtain⟨cs,hcs⟩:∃ cs,cs=bI (gM a.r a.r S'.u) bs:=⟨_,rfl⟩
 rw[← hcs]at hw gY hcb
 unfold eqC
 repeat' first|apply jS|apply jO|apply jN|apply jT|refine Q1 ?_|refine Q0 ?_|refine Q7 ?_|refine QV (h:=?_)|refine Qv (h:=?_)|refine Q2 ?_|refine Qc fun _=>?_|refine Q2 ?_|apply jK|refine Q4 rfl ?_
 rename_i b6
 refine Q5 aA rfl aH rfl (fun w hk hs=>Qb7 (K+1+L+1) w _ _ _ _ _ _ (gM a.r a.c S'.d) a.r a.c cs hDr rfl rfl (hO3.rd.at hk hs (by simp only[Vi,Vv,Vd,Vj,List.set_cons_zero];exact HSub.skip (HSub.skip (Qr (Qr (Qr QI)))))) (gY.rd.at hk hs (by simp only[Vi,Vv,Vd,Vj,List.set_cons_zero];exact HSub.skip (HSub.skip (QI)))) oq (fun i=>Y6 (hDb i) oq) hcb) fun w v w' _ _ _ hR=>?_
 unfold Q2o at hR
 rw[hw]at hR
 subst hR
 repeat' first|apply jS|apply jO|apply jN|apply jT|refine Q1 ?_|refine Q3 ?_|refine Q0 ?_|refine Qb ?_|refine Qv (h:=?_)|refine Q2 ?_|refine Qc fun _=>?_|refine Q2 ?_|apply jK|refine Q4 rfl ?_
 rename_i b9
 refine Yv rfl rfl rfl rfl rfl oq oq (fun by1=>?_)
 have h0:=Xc by1 a.c (by simp only[maxLen];omega)
 repeat' first|apply jS|apply jO|apply jN|refine Q3 ?_|refine Qc fun _=>?_|refine ZO (k:=_) (h:=?_)|apply jT
 rename_i b11
 refine Wz 3 rfl aH rfl rfl rfl rfl rfl rfl ?_
 skip
 refine Qf (A:=[_,_,_,_,_]) (B:=N6++(N1++(N2++(N3++(N4++N5))))++[]) rfl aA rfl aH rfl (fun w hk _=>Qb9 w a.r a.c (a.r*a.c) c3' A3') fun w v w' _ _ _ hR=>?_
 obtain⟨bx,rfl,hNx⟩:=hR
 refine⟨_,hNx,?_⟩
 obtain⟨be,hbe,hA3⟩:=Qmb hO3 bx
 repeat' first|apply jN|apply jT|apply jB
 refine Q35 (od:=[⟨12,2,[],[]⟩]) _ rfl mixed rfl rfl (enters_of Tryz.func114 (by kernel_rfl) rfl) (Q2c hDr hA3)
  (fun pre H'=>∃ Ny,H'=[(bx,.cells #[nv a.r,nv a.c,.slice A3' (a.r*a.c) c3'] 26 (0,0)),(b11,.cells #[.slice (some ⟨by1,0,none⟩) a.c a.c] 24 (0,0)),(b6,.cells (eqC a.r a.c (.slice A1' (a.r*a.r) c1') (.slice A2' (a.r*a.r) c2') (.slice A3' (a.r*a.c) c3') (.slice A4' (a.c*a.c) c4') (.slice A5' (a.c*a.c) c5') (.slice A6' a.r c6')) 91 (0,0))]++(Ny++(N6++(N3++N4)))∧aG Ny (.slice (some ⟨by1,0,none⟩) a.c a.c) a.c (gW (gM a.r a.c S'.d) cs a.c pre))
  (fun _ _=>False)
  (by rintro k _ ⟨Ny,rfl,_⟩;exact Vh) (fun _ _ h=>h.elim)
  (fun q hq => by
   rcases List.mem_cons.1 hq with rfl|hq
   ·exact .inr ⟨_,fun k H' h=>by obtain⟨Ny,rfl,_⟩:=h;exact Vh,fun k H' h=>h.elim⟩
   ·cases List.mem_singleton.1 hq
    rcases hbe with rfl|⟨o,ho⟩
    ·exact .inr ⟨_,fun k H' h=>by obtain⟨Ny,rfl,_⟩:=h;exact Vh,fun k H' h=>h.elim⟩
    ·exact .inr ⟨o,fun k H' h=>by obtain⟨Ny,rfl,_⟩:=h;simp[ho],fun k H' h=>h.elim⟩)
  (by rintro k _ ⟨Ny,rfl,hO⟩;exact Cells.cons (Cells.cons (Cells.cons (hO.cells.app (gY.cells.app (hO3.cells.app hO4.cells)))))) _ ⟨_,rfl,by rw[Qfk];exact h0⟩ ?_
  (fun W hk hs => ⟨hs.blk _ Vh, (aG.rd (c := ⟨Tryz.prog, 62, w0, [], by simp⟩) hO3).at hk hs (HSub.skip (HSub.skip (HSub.skip (Qr (Qr QI))))), by
   rcases hbe with rfl|⟨o,ho⟩
   ·exact Q4v (hs.blk _ Vh)
   ·exact Q4v (hs.blk (be,o) (by simp[ho]))⟩)
  (fun i b=>[(12,nv i),(13,.pointer (some ⟨b,0,none⟩)),(11,.pointer (some ⟨b11,0,none⟩)),(6,.pointer (some ⟨b6,0,none⟩))])
  (fun i=>some (.cells #[.bool (wz (aK (gM a.r a.c S'.d) i)).1,sv (wz (aK (gM a.r a.c S'.d) i)).2] 35 (0,0))) ?_ rfl rfl (by kernel_rfl) (by kernel_rfl) rfl (fun _ _ h=>h) (fun _ _ h=>h) ?_ ?_ ?_ (fun D k H' h _=>h.elim)
 ·exact HSub.at 5 rfl (HSub.at 0 rfl (HSub.at 2 rfl (HSub.at 0 rfl (HSub.skip (HSub.skip (by
   simp only[Vj,Vv]
   show HSub (N6++(N3++N4)) (N6++(N1++(N2++(N3++(N4++N5)))))
   exact ZX (Qr (Qr (ZX QI)))))))))
 ·rintro i o _ k _ ⟨Ny,rfl,hO⟩ p hp
  refine .inr ?_
  have hk:=Q0i hO h0
  show p.1∈keys ([_,_,_]++([_]++(N6++(N3++N4))))
  have h2:=List.mem_map_of_mem (f:=(·.1)) hp
  simp only[keys,Vl]at h2 hk ⊢
  rw[hk]at h2
  exact h2
 ·intro l i W hW
  simp only[toB,Qd,Qt,Qk,Ql,ay,Qg,QA,eH,Vv,Vi]
  repeat' first|apply jS|apply jO|apply jN|refine Q0 ?_|refine Q2 ?_|refine Qc fun _=>?_|refine Q2 ?_|apply jT
  exact Q04 0 rfl rfl rfl aF
 ·rintro l i pre b _ W1 hM' hi hpl ⟨Ny,rfl,hO⟩ hl hln hkb hge
  simp only[toB,Qd,Qt,Qk,Ql,ay,Qg,QA,eH,Vv,Vi]
  have hoth:jG ⟨Tryz.prog,62,W1,_,hM'⟩ N6 (.slice A6' a.r c6') a.r cs:=gY.rd
  have hdb:(aK (gM a.r a.c S'.d) i).natAbs<256 ^ (K+1+L+1):=by
   unfold aK
   split
   ·exact Y6 (hDb.at i i) oq
   ·exact bG _
  unfold eqC
  repeat' first|apply jS|apply jO|refine Q7 ?_|apply jB
  refine Q5 aA rfl aH rfl (fun w _ _=>Q2l w _ (aK (gM a.r a.c S'.d) i) (K+1+L+1) (Qi hdb) oq) fun w v w' _ _ _ hR=>?_
  subst hR
  by_cases hdz:aK (gM a.r a.c S'.d) i=0
  ·rw[decide_eq_true hdz]
   repeat' first|apply jN|apply jT|refine QV (h:=?_)|apply jK|refine Q4 rfl ?_|apply jW
   exact ZT ⟨Ny,rfl,by rw[← Qfm hdz];exact hO⟩ (Cells.cons (Cells.cons (Cells.cons (hO.cells.app (gY.cells.app (hO3.cells.app hO4.cells)))))) (HSub.skip (HSub.refl _))
  ·rw[decide_eq_false hdz]
   have hic:i<a.c:=by
    unfold aK at hdz
    split at hdz
    ·assumption
    ·exact absurd rfl hdz
   repeat' first|apply jN|apply jT|refine QV (h:=?_)|refine Q8 rfl ?_
   refine Z7 ([(b,.cells #[.bool (wz (aK (gM a.r a.c S'.d) i)).1,sv (wz (aK (gM a.r a.c S'.d) i)).2] 35 (0,0)),(b11,.cells #[.slice (some ⟨by1,0,none⟩) a.c a.c] 24 (0,0)),(b6,.cells #[nv a.r,nv a.r,.slice A1' (a.r*a.r) c1',nv a.r,nv a.r,.slice A2' (a.r*a.r) c2',nv a.r,nv a.c,.slice A3' (a.r*a.c) c3',nv a.c,nv a.c,.slice A4' (a.c*a.c) c4',nv a.c,nv a.c,.slice A5' (a.c*a.c) c5',.slice A6' a.r c6'] 91 (0,0))]++N6) (HSub.at 0 rfl (HSub.at 1 rfl (HSub.at 1 rfl (HSub.skip (Qr QI))))) ?_
   repeat' first|refine Q1 ?_|refine Q3 ?_|refine Qb ?_|refine Q7 ?_|refine Zn (h:=?_)|refine XD (h:=?_)|fail
   refine Q5 aA rfl aH rfl (fun w _ _=>Q3b w _ _ (cs.getD i 0) (aK (gM a.r a.c S'.d) i) (K+1+L+1) (Qi (hcb i)) (Qi hdb) oq) fun w v w' _ _ _ hR=>?_
   rw[if_neg hdz]at hR
   subst hR
   repeat' first|refine Q1 ?_|refine Zn (h:=?_)|refine Qv (h:=?_)|fail
   refine Q27 (A:=[_,_,_,_]) hO rfl rfl aA rfl rfl hic (fun N' aU=>?_)
   rw[Qfl hdz]at aU
   repeat' first|apply jN|apply jW
   exact ZT ⟨N',rfl,aU⟩ (Cells.cons (Cells.cons (Cells.cons (aU.cells.app (gY.cells.app (hO3.cells.app hO4.cells)))))) (HSub.skip (HSub.refl _))
 ·rintro D _ ⟨Ny,rfl,hO⟩ jA
  simp only[toS,Qd,Qt,Qk,Ql,ay,Qg,QA]
  repeat' first|apply jS|refine Q3 ?_|apply jO
  unfold eqC
  refine Wz 3 rfl aH rfl rfl rfl rfl rfl rfl ?_
  repeat' first|refine Qb ?_|fail
  have hO4z:aG N4 (.slice A4' (a.c*a.c) c4') (gM a.c a.c S'.v).e.length (gM a.c a.c S'.v).e:=by rw[show (gM a.c a.c S'.v).e.length=a.c*a.c from XA hD.v];exact hO4
  have hyl:=Qjr (gM a.r a.c S'.d) cs a.c (List.range (gM a.r a.c S'.d).r)
  refine Qf (A:=[_,_,_,_]) (B:=Ny++(N6++(N3++N4))) rfl aA rfl aH rfl (fun w hk hs=>Qbd (K+1) (K+1+L+1) w _ _ (gM a.c a.c S'.v) (gW (gM a.r a.c S'.d) cs a.c (List.range (gM a.r a.c S'.d).r)) hVr hyl.symm oq hVb (Qfn hcb) ⟨_,rfl,hO4z.rd.at hk hs (HSub.skip (HSub.skip (HSub.skip (HSub.skip (Qr (Qr (Qr (Qr (HSub.refl _)))))))))⟩ (by rw[hyl];exact hO.rd.at hk hs (HSub.skip (HSub.skip (HSub.skip (HSub.skip QI)))))) fun w v w' _ _ _ hR=>?_
  obtain⟨N7,E7,hN7,rfl,hO7⟩:=hR
  rw[Q7o,Yk]at hO7
  obtain⟨A7,c7,rfl⟩:=hO7.form
  refine⟨N7,hN7,?_⟩
  repeat' first|apply jN|apply jT|refine Q0 ?_|refine Qv (h:=?_)|apply jR
  refine XW 0 rfl jA rfl ?_
  refine YH rfl rfl (fun a' w' st=>⟨st.kp,N7,_,st.aS rfl (HSub.skip (HSub.skip (HSub.skip QI))),rfl,?_⟩)
  unfold solV
  rw[← hcs]
  exact hO7


def jr (b:ZM) (j:Nat):List Int:=tab b.r fun i=>b.at i j
def corE (S:Sm) (z b:ZM) (i j:Nat):Int:=(solV S z.r z.c (jr b j)).getD i 0
def corZ (S:Sm) (z b:ZM):ZM:=zof z.c b.c (corE S z b)
def corS (S:Sm) (z b:ZM) (j i:Nat):List Int:=gu z.c b.c fun a c=>if c<j∨(c=j∧a<i) then corE S z b a c else 0
theorem Qi4 (S:Sm) (z b:ZM):corS S z b 0 0=tab (z.c*b.c) fun _=>0:=by
 rw[← Q70]
 exact Z3 fun i j _ _=>by rw[if_neg oq]
theorem Ql7 {S:Sm} {z b:ZM} {j i:Nat} (hj:j<b.c):(corS S z b j i).set (i*b.c+j) (corE S z b i j)=corS S z b j (i+1):=by
 unfold corS
 rw[Q71 hj]
 refine Z3 fun a c _ _=>?_
 by_cases h:a=i∧c=j
 ·obtain⟨rfl,rfl⟩:=h
  rw[if_pos ⟨rfl,rfl⟩,if_pos oq]
 ·rw[if_neg h]
  by_cases h2:c<j∨(c=j∧a<i)
  ·rw[if_pos h2,if_pos oq]
  ·rw[if_neg h2,if_neg oq]
theorem Qi5 {S:Sm} {z b:ZM} {j:Nat}:corS S z b j z.c=corS S z b (j+1) 0:=Z3 fun a c ha _=>by
 by_cases h2:c<j∨(c=j∧a<z.c)
 ·rw[if_pos h2,if_pos oq]
 ·rw[if_neg h2,if_neg oq]
theorem Ql8 {S:Sm} {z b:ZM}:corS S z b b.c 0=(corZ S z b).e:=Z3 fun a c _ hc=>by rw[if_pos (.inl hc)]
theorem Qpf {L:Nat} {b:ZM} (h:cZ L b) (j:Nat):fK L (jr b j):=fun i=>by
 by_cases hi:i<b.r
 ·unfold jr
  rw[Zq hi]
  exact h.at i j
 ·rw[List.getD,List.getElem?_eq_none (by unfold jr;rw[W6];omega)];exact XZ _
theorem Qpe {S:Sm} {z b:ZM} (hz:cO z) (hb:cO b):cO (corZ S z b):=Xg hz.c hb.c

theorem Qpw (K fc f L:Nat) (w0:World) (v u:Value) (z b:ZM) (S':Sm) (hz:cO z) (hb:cO b) (hzb:b.r=z.r) (hv:fO w0 v z) (hu:fO w0 u b) (hK:K+1+K+1+L+2≤26000000000000) (hbz:cZ (K+1) z) (hbb:cZ L b)
  (hf:ZF (K+1) fc f z.r z.c (min z.r z.c) 0 (QY z.r z.c (QZ z))=some S') (hw:∀ j,j<b.c→YC (gM z.r z.c S'.d) (bI (gM z.r z.r S'.u) (jr b j))=none) :
  Calls Tryz.prog 57 #[v,u] w0 (aP fun v w'=>Kp [] w0 w'∧Q5m (corZ S' z b) true w0 v w'):=by
 have hv0:=hv
 have hu0:=hu
 have hzr:=hz.r
 have hzc:=hz.c
 have hbr:=hb.r
 have hbc:=hb.c
 obtain⟨E,rfl,hE⟩:=hv
 obtain⟨A0,c0,rfl⟩:=hE.form
 obtain⟨E',rfl,hE'⟩:=hu
 obtain⟨A1,c1,rfl⟩:=hE'.form
 refine Q9 [] [] au [] Tryz.func57 rfl mixed (by kernel_rfl) Tryz.ntmps57 Tryz.results57 rfl ⟨by simp,by simp⟩ au ?_
 simp only[toS,Qd,Qt,Qk,Ql,ay,Qg,QA,aC]
 repeat' first|apply jS|apply jO|apply jN|refine Q3 ?_|refine Q0 ?_|refine Qb ?_|refine Qc fun _=>?_|refine QB fun _=>?_|apply jT
 rename_i b2 b3 b4
 refine Qf (A:=[_,_,_]) (B:=[]) rfl aA rfl aH rfl (fun w hk hs=>Qdn z.c b.c hzc hbc w) fun w v w' _ _ _ hR=>?_
 obtain⟨N0,E0,hN0,rfl,hO0⟩:=hR
 obtain⟨Ao,co,rfl⟩:=hO0.form
 refine⟨N0,hN0,?_⟩
 repeat' first|apply jS|apply jO|apply jN|apply jT|refine Q1 ?_|refine Q3 ?_|refine Qb ?_|refine Q2 ?_|refine Qc fun _=>?_|refine Q2 ?_|apply jB
 rename_i b6
 refine Qp (ι:=Nat × aj) ⟨fun k=>[(21,nv k.1),(20,nv b.c),(6,.pointer (some ⟨b6,0,none⟩)),(4,.pointer (some ⟨b4,0,none⟩)),(3,.pointer (some ⟨b3,0,none⟩)),(2,.pointer (some ⟨b2,0,none⟩))],fun k=>[(b6,.cells #[nv z.c,nv b.c,.slice Ao (z.c*b.c) co] 26),(b4,.cells #[iv 0,iv 0,.slice none 0 0] 26),(b3,.cells #[nv b.r,nv b.c,.slice A1 b.e.length c1] 26),(b2,.cells #[nv z.r,nv z.c,.slice A0 z.e.length c0] 26)]++(k.2++[]),
  fun k=>k.1≤b.c∧aG k.2 (.slice Ao (z.c*b.c) co) (z.c*b.c) (corS S' z b k.1 0),fun k=>b.c-k.1⟩ (0,N0) ⟨V9 _,by rw[Qi4];exact hO0⟩ aF (HSub.refl _) (fun k hk=>?_)
 obtain⟨j,N⟩:=k
 obtain⟨hjb,hO⟩:=hk
 dsimp only at hjb hO ⊢
 by_cases hj:j<b.c
 ·repeat' first|apply jS|apply jO|apply jN|apply jT|refine Q1 ?_|refine Q3 ?_|refine Q0 ?_|refine Qb ?_|(refine Qs (h1:=?_) (h2:=?_)<;>intro hc<;>try omega)|apply jK|refine Q8 rfl ?_|apply jB
  refine Yv rfl rfl rfl rfl rfl oq oq (fun by1=>?_)
  have h0:=Xc by1 b.r (by simp only[maxLen];omega)
  repeat' first|apply jS|apply jO|apply jN|apply jT|refine Q1 ?_|refine Q3 ?_|refine Q0 ?_|refine Qb ?_|apply jB
  refine Qp (ι:=Nat × aj) ⟨fun q=>[(29,nv q.1),(28,nv b.r),(8,.slice (some ⟨by1,0,none⟩) b.r b.r),(7,nv j),(21,nv j),(20,nv b.c),(6,.pointer (some ⟨b6,0,none⟩)),(4,.pointer (some ⟨b4,0,none⟩)),(3,.pointer (some ⟨b3,0,none⟩)),(2,.pointer (some ⟨b2,0,none⟩))],fun q=>[(b6,.cells #[nv z.c,nv b.c,.slice Ao (z.c*b.c) co] 26),(b4,.cells #[iv 0,iv 0,.slice none 0 0] 26),(b3,.cells #[nv b.r,nv b.c,.slice A1 b.e.length c1] 26),(b2,.cells #[nv z.r,nv z.c,.slice A0 z.e.length c0] 26)]++(q.2++(N++[])),
   fun q=>q.1≤b.r∧aG q.2 (.slice (some ⟨by1,0,none⟩) b.r b.r) b.r (tab b.r fun i=>if i<q.1 then b.at i j else 0),fun q=>b.r-q.1⟩ (0,_) ⟨V9 _,by simpa using h0⟩ aF (HSub.at 1 rfl (HSub.at 1 rfl (HSub.at 1 rfl (HSub.at 1 rfl (HSub.refl _))))) (fun q hq=>?_)
  obtain⟨i,Ny⟩:=q
  obtain⟨hib,hOy⟩:=hq
  dsimp only at hib hOy ⊢
  by_cases hi:i<b.r
  ·repeat' first|apply jS|apply jO|apply jN|apply jT|refine Q1 ?_|refine Q0 ?_|refine Q7 ?_|(refine Qs (h1:=?_) (h2:=?_)<;>intro hc<;>try omega)|apply jK|refine Q8 rfl ?_|apply jB
   refine Q5 aA rfl aH rfl (fun w hk hs=>c_At w _ b (i:Int) (j:Int) hb (hu0.mono hk)) fun w v w' _ _ _ hR=>?_
   rw[Qjb hi hj]at hR
   subst hR
   repeat' first|refine Zn (h:=?_)|fail
   refine Q27 (A:=[_,_,_,_]) hOy rfl rfl aA rfl rfl hi (fun N' aU=>?_)
   rw[Q6u (f:=fun i=>b.at i j)]at aU
   repeat' first|apply jO|apply jN|apply jT|refine Q1 ?_|refine Qj ?_|apply jW
   exact Qa (i+1,N') ⟨by dsimp only;omega,aU⟩ aY aF (HSub.refl _)
  ·obtain rfl:i=b.r:=by omega
   have hcol:(tab b.r fun i=>if i<b.r then b.at i j else 0)=jr b j:=Y0 fun i hi=>if_pos hi
   rw[hcol]at hOy
   repeat' first|apply jS|apply jO|apply jN|apply jT|refine Q1 ?_|refine Q7 ?_|(refine Qs (h1:=?_) (h2:=?_)<;>intro hc<;>try omega)|apply jU|apply jE|refine Q4 rfl ?_|apply Qe
   refine Qf (A:=[_,_,_,_]) (B:=Ny++(N++[])) rfl aA rfl aH rfl (fun w hk hs=>Q8b K fc f L w _ _ z (jr b j) S' hz (hv0.mono hk) (by rw[← hzb];exact hOy.rd.at hk hs Q6) hK hbz (Qpf hbb j) hf (hw j hj)) fun w v w' _ _ _ hR=>?_
   obtain⟨N7,E7,hN7,rfl,hO7⟩:=hR
   obtain⟨A7,c7,rfl⟩:=hO7.form
   refine⟨N7,hN7,?_⟩
   repeat' first|apply jS|apply jO|apply jN|apply jT|refine Q1 ?_|refine Q0 ?_|refine Zv (h:=?_)|refine QV (h:=?_)|refine Qv (h:=?_)|apply jK|refine Q4 rfl ?_|apply jB
   refine Qp (ι:=Nat × aj) ⟨fun q=>[(51,nv q.1),(50,nv z.c),(49,.slice A7 z.c c7),(7,nv j),(21,nv j),(20,nv b.c),(6,.pointer (some ⟨b6,0,none⟩)),(4,.pointer (some ⟨b4,0,none⟩)),(3,.pointer (some ⟨b3,0,none⟩)),(2,.pointer (some ⟨b2,0,none⟩))],fun q=>[(b6,.cells #[nv z.c,nv b.c,.slice Ao (z.c*b.c) co] 26),(b4,.cells #[iv 0,iv 0,.slice none 0 0] 26),(b3,.cells #[nv b.r,nv b.c,.slice A1 b.e.length c1] 26),(b2,.cells #[nv z.r,nv z.c,.slice A0 z.e.length c0] 26)]++(N7++(q.2++[])),
    fun q=>q.1≤z.c∧aG q.2 (.slice Ao (z.c*b.c) co) (z.c*b.c) (corS S' z b j q.1),fun q=>z.c-q.1⟩ (0,N) ⟨V9 _,hO⟩ aF (HSub.at 0 rfl (HSub.at 0 rfl (HSub.at 0 rfl (HSub.at 0 rfl (by
     show HSub (N7++(N++[])) (N7++(Ny++(N++[])))
     exact ZX (Qr (HSub.refl _))))))) (fun q hq=>?_)
   clear hO
   obtain⟨i,N⟩:=q
   obtain⟨hiz,hO⟩:=hq
   dsimp only at hiz hO ⊢
   have hic:i*b.c≤40000:=Vr (show i≤200 by omega) hbc
   by_cases hi:i<z.c
   ·have hlt:=Q0z hi hj
    have hRd:jG ⟨Tryz.prog,69,w0,[],by simp⟩ N7 (.slice A7 z.c c7) z.c (solV S' z.r z.c (jr b j)):=hO7.rd
    repeat' first|apply jS|apply jO|apply jN|apply jT|refine Q1 ?_|refine Q3 ?_|refine Q0 ?_|refine Qb ?_|refine Q7 ?_|refine Zn (h:=?_)|refine XD (h:=?_)|refine Zf (h:=?_)|refine ZK (h:=?_)|refine Q2 ?_|(refine Qs (h1:=?_) (h2:=?_)<;>intro hc<;>try omega)|refine Qc fun _=>?_|refine Q2 ?_|apply jK|refine Q8 rfl ?_|apply jB
    rename_i b13
    refine Q27 (A:=_::_::_::_::_::N7) (B:=[]) (u:=corE S' z b i j) hO rfl rfl aA rfl rfl hlt (fun N' aU=>?_)
    rw[Ql7 hj]at aU
    repeat' first|apply jO|apply jN|apply jT|refine Q1 ?_|refine Qj ?_|apply jW
    exact Qa (i+1,N') ⟨by dsimp only;omega,aU⟩ aY aF (HSub.skip (HSub.refl _))
   ·obtain rfl:i=z.c:=by omega
    rw[Qi5]at hO
    repeat' first|apply jS|apply jO|apply jN|apply jT|refine Q1 ?_|refine Qj ?_|(refine Qs (h1:=?_) (h2:=?_)<;>intro hc<;>try omega)|apply jU|apply jE|refine Q4 rfl ?_|apply jW|apply Qe
    exact Qa (j+1,N) ⟨by dsimp only;omega,hO⟩ aY aF (HSub.at 0 rfl (HSub.at 0 rfl (HSub.at 0 rfl (HSub.at 0 rfl (by
     show HSub (N++[]) (N7++(N++[]))
     exact Qr (HSub.refl _))))))
 ·obtain rfl:j=b.c:=by omega
  rw[Ql8]at hO
  repeat' first|apply jS|apply jO|apply jN|apply jT|refine Q0 ?_|refine Q7 ?_|refine Q2 ?_|(refine Qs (h1:=?_) (h2:=?_)<;>intro hc<;>try omega)|refine Q2 ?_|apply jU|apply jE|apply jR|refine Q4 rfl ?_|apply Qe
  exact X8 1 rfl rfl rfl rfl (fun a w' st=>⟨st.kp,N,_,rfl,st.aS rfl (HSub.skip (HSub.skip (HSub.skip (HSub.skip QI)))),fZ.mk' hO⟩)


def dL (D:ZM) (pre:List Nat):List Int:=(pre.filter fun i=>decide (1<aK D i)).map (aK D)
def iy (D:ZM) (pre:List Nat):Nat:=(pre.filter fun i=>decide (aK D i=0)).length
def dM (D:ZM) (pre:List Nat):List Int:=List.map (fun(i:Nat)=>(i:Int)) (pre.filter fun i=>decide (aK D i=0∨1<aK D i))
theorem Q6z {D:ZM} {pre:List Nat} {i:Nat} (h:1<aK D i):dL D pre++[aK D i]=dL D (pre++[i]):=by
 unfold dL;rw[List.filter_append,Vl];simp[h]
theorem WH {D:ZM} {pre:List Nat} {i:Nat} (h:¬1<aK D i):dL D pre=dL D (pre++[i]):=by
 unfold dL;rw[List.filter_append,Vl];simp[h]
theorem Qhp {D:ZM} {pre:List Nat} {i:Nat} (h:aK D i=0):iy D pre+1=iy D (pre++[i]):=by
 unfold iy;rw[List.filter_append,Vk];simp[h]
theorem Q3r {D:ZM} {pre:List Nat} {i:Nat} (h:¬aK D i=0):iy D pre=iy D (pre++[i]):=by
 unfold iy;rw[List.filter_append,Vk];simp[h]
theorem WD {D:ZM} {pre:List Nat} {i:Nat} (h:aK D i=0∨1<aK D i):dM D pre++[(i:Int)]=dM D (pre++[i]):=by
 unfold dM;rw[List.filter_append,Vl];simp[h]
theorem Qdh {D:ZM} {pre:List Nat} {i:Nat} (h:¬(aK D i=0∨1<aK D i)):dM D pre=dM D (pre++[i]):=by
 unfold dM;rw[List.filter_append,Vl];simp[h]
theorem Qnh (D:ZM) (pre:List Nat):(dL D pre).length≤pre.length:=by
 unfold dL;rw[List.length_map];exact List.length_filter_le _ _
theorem Qho (D:ZM) (pre:List Nat):iy D pre≤pre.length:=List.length_filter_le _ _
theorem Qi7 (D:ZM) (pre:List Nat):(dM D pre).length≤pre.length:=by
 unfold dM;rw[List.length_map];exact List.length_filter_le _ _

theorem Qck {e:TypeId} {sz n:Nat} {N:aj} {v:Value} {cs:List Value} {p:Nat × Obj} (h:aB e sz N v n cs) (hp:p∈N):N=[p]∧∃ cur,p.2=.cells cur e (0,0):=by
 obtain⟨_,⟨_,_,h3⟩|⟨b,cap,cur,_,h3,_⟩⟩:=h
 ·rw[h3]at hp;cases hp
 ·rw[h3]at hp
  cases List.mem_singleton.1 hp
  exact⟨h3,_,rfl⟩

theorem Qpz (K fc f L K2 fc2 f2:Nat) (w0:World) (v u:Value) (z b:ZM) (Sz Sx:Sm) (hz:cO z) (hb:cO b) (hzb:b.r=z.r) (hv:fO w0 v z) (hu:fO w0 u b) (hK:K+1+K+1+L+2≤26000000000000) (hK2:K+K2+3≤13000000000000) (hbz:cZ (K+1) z) (hbb:cZ L b) (hrk:(dH Sz.d (min z.r z.c)).length=z.c)
  (hf:ZF (K+1) fc f z.r z.c (min z.r z.c) 0 (QY z.r z.c (QZ z))=some Sz) (hw:∀ j,j<b.c→YC (gM z.r z.c Sz.d) (bI (gM z.r z.r Sz.u) (jr b j))=none)
  (hbx:cZ (K2+1) (corZ Sz z b)) (hf2:ZF (K2+1) fc2 f2 z.c b.c (min z.c b.c) 0 (QY z.c b.c (QZ (corZ Sz z b)))=some Sx) :
  Calls Tryz.prog 23 #[v,u] w0 (aP fun v w'=>Kp [] w0 w'∧∃ N A c Ag cg Ng gs,New (Ng++N) w0 w'∧aG N (.slice A (dL (gM z.c b.c Sx.d) (List.range z.c)).length c) (dL (gM z.c b.c Sx.d) (List.range z.c)).length (dL (gM z.c b.c Sx.d) (List.range z.c))∧v=.tuple #[.slice A (dL (gM z.c b.c Sx.d) (List.range z.c)).length c,nv (iy (gM z.c b.c Sx.d) (List.range z.c)),.agg #[nv z.r,nv (dM (gM z.c b.c Sx.d) (List.range z.c)).length,.slice Ag (z.r*(dM (gM z.c b.c Sx.d) (List.range z.c)).length) cg],.bool true]∧aG Ng (.slice Ag (z.r*(dM (gM z.c b.c Sx.d) (List.range z.c)).length) cg) (z.r*(dM (gM z.c b.c Sx.d) (List.range z.c)).length) gs∧(dM (gM z.c b.c Sx.d) (List.range z.c)).length≤z.c):=by
 have hv0:=hv
 have hu0:=hu
 have jI:=hv.x
 have huX:=hu.x
 have hzr:=hz.r
 have hzc:=hz.c
 have hbr:=hb.r
 have hbc:=hb.c
 have hzl:=Q08 hz
 have hbl:=Q08 hb
 obtain⟨E,rfl,hE⟩:=hv
 obtain⟨A0,c0,rfl⟩:=hE.form
 obtain⟨E',rfl,hE'⟩:=hu
 obtain⟨A1,c1,rfl⟩:=hE'.form
 refine Xf 5 [⟨1,0,[0,1,2,3,4,5,6,7,8,9,10,11,12,13,14,15,16,18,19,17,20,21],[]⟩,⟨24,2,[],[]⟩,⟨27,2,[],[]⟩] Tryz.func23 rfl mixed (by kernel_rfl) Tryz.ntmps23 au ?_
 simp only[toZ,Q39,Bool.or_false,Bool.false_or,Bool.or_self,Bool.true_or,cond_true,cond_false,toS,Qd,Qt,Qk,Ql,ay,Qg,QA,aC]

 repeat' first|apply jS|apply jO|apply jD|apply jN|refine Q0 ?_|refine Q7 ?_|refine Qc fun _=>?_|refine QB fun _=>?_|apply jT
 rename_i b2 b3 b4 b5 b6
 refine Q5 trivial rfl rfl rfl (fun w hk _=>YY w _ z.xm (jI.mono hk) oq) fun w v w' _ _ _ hR=>?_
 obtain⟨b',rfl,hb'⟩:=hR
 obtain rfl:=hb'.2 hz.rx
 repeat' first|refine Q1 ?_|refine Q7 ?_|refine QV (h:=?_)|fail
 refine Q5 trivial rfl rfl rfl (fun w hk _=>YY w _ b.xm (huX.mono hk) oq) fun w v w' _ _ _ hR=>?_
 obtain⟨b'',rfl,hb''⟩:=hR
 obtain rfl:=hb''.2 hb.rx
 repeat' first|refine Q1 ?_|refine Q3 ?_|refine Qb ?_|refine Q7 ?_|refine QC (h:=?_)|refine QV (h:=?_)|(refine Ze (h1:=?_) (h2:=?_)<;>intro hc<;>try omega)|fail
 all_goals first
  | (exfalso;omega)
  | skip
 refine Q5 aA rfl aH rfl (fun w hk hs=>Qmz K fc f w _ z Sz hz (hv0.mono hk) oq hbz hf) fun w v w' _ _ _ hR=>?_
 rw[hrk]at hR
 subst hR
 repeat' first|apply jS|apply jO|apply jN|apply jT|refine Q7 ?_|refine QC (h:=?_)|(refine Ze (h1:=?_) (h2:=?_)<;>intro hc<;>try omega)|apply jK|refine Q4 rfl ?_
 all_goals first
  | (exfalso;omega)
  | skip
 refine Qf (A:=[_,_,_,_,_]) (B:=[]) rfl aA rfl aH rfl (fun w hk hs=>Qpw K fc f L w _ _ z b Sz hz hb hzb (hv0.mono hk) (hu0.mono hk) hK hbz hbb hf hw) fun w v w' _ _ _ hR=>?_
 obtain⟨Nx,Vx,rfl,hNx,hOx⟩:=hR
 obtain⟨Ex,rfl,hOx⟩:=hOx
 obtain⟨Ax,cx,rfl⟩:=hOx.form
 refine⟨Nx,hNx,?_⟩
 repeat' first|apply jS|apply jO|apply jN|apply jT|refine Q1 ?_|refine Q0 ?_|refine Q7 ?_|refine QV (h:=?_)|refine Qv (h:=?_)|refine Q2 ?_|refine Qc fun _=>?_|refine Q2 ?_|apply jK|refine Q4 rfl ?_
 rename_i b8
 have hxr:cO (corZ Sz z b):=Qpe hz hb
 have hbS:=YL hf2 (Yi hxr hbx)
 refine Qf (A:=[_,_,_,_,_,_]) (B:=Nx++[]) rfl aA rfl aH rfl (fun w hk hs=>Qds K2 fc2 f2 w _ (corZ Sz z b) Sx hxr ⟨_,rfl,hOx.rd.at hk hs (HSub.skip (HSub.skip (HSub.skip (HSub.skip (HSub.skip (HSub.skip QI))))))⟩ oq hbx hf2) fun w v w' _ _ _ hR=>?_
 have hR':Qjh z.c b.c Sx w v w':=hR
 obtain⟨N1,N2,N3,N4,N5,E1,E2,E3,E4,E5,rfl,hD,hN,bT,hO2,hO3,hO4,iL⟩:=hR'
 clear hR
 obtain⟨A1',c1',rfl⟩:=bT.form
 obtain⟨A2',c2',rfl⟩:=hO2.form
 obtain⟨A3',c3',rfl⟩:=hO3.form
 obtain⟨A4',c4',rfl⟩:=hO4.form
 obtain⟨A5',c5',rfl⟩:=iL.form
 refine⟨_,hN,?_⟩
 have hIr:cO (gM z.c z.c Sx.ui):=Wt hD.ui hzc hzc
 have hDr:cO (gM z.c b.c Sx.d):=Wt hD.d hzc hbc
 have hIb:cZ (K2+1) (gM z.c z.c Sx.ui):=Xz hD.ui hbS.ui hzc hzc
 have hDb:cZ (K2+1) (gM z.c b.c Sx.d):=Xz hD.d hbS.d hzc hbc
 have hO2z:aG N2 (.slice A2' (z.c*z.c) c2') (gM z.c z.c Sx.ui).e.length (gM z.c z.c Sx.ui).e:=by rw[show (gM z.c z.c Sx.ui).e.length=z.c*z.c from XA hD.ui];exact hO2
 unfold smC
 repeat' first|apply jS|apply jO|apply jN|refine Q3 ?_|refine Q7 ?_|refine Q2 ?_|refine Qc fun _=>?_|refine Q2 ?_|apply jT
 rename_i b9
 refine Wz 0 rfl aH rfl rfl rfl rfl rfl rfl ?_
 skip
 refine Qf (A:=[_,_,_,_,_,_,_]) (B:=(N1++(N2++(N3++(N4++N5))))++(Nx++[])) rfl aA rfl aH rfl (fun w hk hs=>Qn1 (K+1) (K2+1) w _ _ z (gM z.c z.c Sx.ui) hz hIr rfl oq hbz hIb (hv0.mono hk) ⟨_,rfl,hO2z.rd.at hk hs (by simp only[Vi,Vv,Vd,Vj,List.set_cons_zero];exact HSub.skip (HSub.skip (HSub.skip (HSub.skip (HSub.skip (HSub.skip (HSub.skip (Qr QI))))))))⟩) fun w v w' _ _ _ hR=>?_
 obtain⟨Nb,Vb,rfl,hNb,hOb⟩:=hR
 obtain⟨Eb,rfl,hOb⟩:=hOb
 obtain⟨Ab,cb,rfl⟩:=hOb.form
 refine⟨Nb,hNb,?_⟩
 repeat' first|apply jS|apply jO|apply jN|refine Q1 ?_|refine Q3 ?_|refine Q0 ?_|refine Qv (h:=?_)|refine Q2 ?_|refine Qc fun _=>?_|refine Q2 ?_|apply jT
 rename_i b10 b12
 refine Wz 2 rfl aH rfl rfl rfl rfl rfl rfl ?_
 skip
 refine Qf (A:=[_,_,_,_,_,_,_,_,_]) (B:=Nb++((N1++(N2++(N3++(N4++N5))))++(Nx++[]))) rfl aA rfl aH rfl (fun w hk _=>Qb9 w z.c b.c (z.c*b.c) c3' A3') fun w v w' _ _ _ hR=>?_
 obtain⟨bx,rfl,hNx'⟩:=hR
 refine⟨_,hNx',?_⟩
 obtain⟨be,hbe,hA3⟩:=Qmb hO3 bx
 repeat' first|apply jN|apply jT|apply jB
 refine Q8k (od:=[⟨1,0,[0,1,2,3,4,5,6,7,8,9,10,11,12,13,14,15,16,18,19,17,20,21],[]⟩,⟨24,2,[],[]⟩,⟨27,2,[],[]⟩]) _ rfl mixed rfl rfl (enters_of Tryz.func114 (by kernel_rfl) rfl) (Q2c hDr hA3)
  (fun pre H'=>∃ vt Nt vc Nc,H'=[(bx,.cells #[nv z.c,nv b.c,.slice A3' (z.c*b.c) c3'] 26 (0,0)),(b12,.cells #[vc] 48 (0,0)),(b10,.cells #[nv z.r,nv z.c,.slice Ab (jH z (gM z.c z.c Sx.ui)).e.length cb] 26 (0,0)),(b6,.cells #[iv 0,iv 0,.slice none 0 0] 26 (0,0)),(b5,.cells #[nv (iy (gM z.c b.c Sx.d) pre)] 3 (0,0)),(b4,.cells #[vt] 24 (0,0)),(b2,.cells #[nv z.r,nv z.c,.slice A0 z.e.length c0] 26 (0,0))]++(Nt++(Nc++(Nb++N3)))∧aG Nt vt (dL (gM z.c b.c Sx.d) pre).length (dL (gM z.c b.c Sx.d) pre)∧dX Nc vc (dM (gM z.c b.c Sx.d) pre).length (dM (gM z.c b.c Sx.d) pre))
  (fun _ _=>False)
  (by rintro k _ ⟨vt,Nt,vc,Nc,rfl,_⟩;exact Vh) (fun _ _ h=>h.elim)
  (fun q hq => by
   rcases List.mem_cons.1 hq with rfl|hq
   ·exact .inr ⟨_,fun k H' h=>by obtain⟨vt,Nt,vc,Nc,rfl,_⟩:=h;exact Vh,fun k H' h=>h.elim⟩
   ·cases List.mem_singleton.1 hq
    rcases hbe with rfl|⟨o,ho⟩
    ·exact .inr ⟨_,fun k H' h=>by obtain⟨vt,Nt,vc,Nc,rfl,_⟩:=h;exact Vh,fun k H' h=>h.elim⟩
    ·exact .inr ⟨o,fun k H' h=>by obtain⟨vt,Nt,vc,Nc,rfl,_⟩:=h;simp[ho],fun k H' h=>h.elim⟩)
  (by rintro k _ ⟨vt,Nt,vc,Nc,rfl,jP,hOc⟩;exact Cells.cons (Cells.cons (Cells.cons (Cells.cons (Cells.cons (Cells.cons (Cells.cons (jP.cells.app ((aB.cells' hOc).app (hOb.cells.app hO3.cells)))))))))) _ ⟨.slice none 0 0,[],.slice none 0 0,[],rfl,aG.nil,dX.nil⟩ ?_
  (fun W hk hs => ⟨hs.blk _ Vh, (aG.rd (c := ⟨Tryz.prog, 117, w0, [], by simp⟩) hO3).at hk hs (HSub.skip (HSub.skip (HSub.skip (HSub.skip (HSub.skip (HSub.skip (HSub.skip (by show HSub N3 (Nb ++ N3); exact Qr (HSub.refl _))))))))), by
   rcases hbe with rfl|⟨o,ho⟩
   ·exact Q4v (hs.blk _ Vh)
   ·exact Q4v (hs.blk (be,o) (by simp[ho]))⟩)
  (fun i b=>[(13,nv i),(14,.pointer (some ⟨b,0,none⟩)),(12,.pointer (some ⟨b12,0,none⟩)),(5,.pointer (some ⟨b5,0,none⟩)),(4,.pointer (some ⟨b4,0,none⟩))])
  (fun i=>some (.cells #[.bool (wz (aK (gM z.c b.c Sx.d) i)).1,sv (wz (aK (gM z.c b.c Sx.d) i)).2] 35 (0,0))) rfl rfl (by kernel_rfl) (by kernel_rfl) rfl (by kernel_rfl) (fun _ _ h=>h) (fun _ _ h=>h) ?_ ?_ ?_ (fun D k H' h _=>h.elim)
 ·exact HSub.at 9 rfl (HSub.at 0 rfl (HSub.at 0 rfl (HSub.at 2 rfl (HSub.at 2 rfl (HSub.at 2 rfl (HSub.at 3 rfl (HSub.skip (HSub.skip (HSub.skip (by
   show HSub (Nb++N3) (Nb++((N1++(N2++(N3++(N4++N5))))++(Nx++[])))
   simp only[Vd]
   exact ZX (Qr (Qr QI))))))))))))
 ·intro l i W hW
  simp only[toB,Qd,Qt,Qk,Ql,ay,Qg,QA,eH,Vv,Vi]
  repeat' first|apply jS|apply jO|apply jN|refine Q0 ?_|refine Q2 ?_|refine Qc fun _=>?_|refine Q2 ?_|apply jT
  exact Q04 0 rfl rfl rfl aF
 ·rintro l i pre bd _ X W1 hM' hi hpl ⟨vt,Nt,vc,Nc,rfl,jP,hOc⟩ hX hl hln hkb hge
  have hdb:(aK (gM z.c b.c Sx.d) i).natAbs<256 ^ (K2+1):=by
   unfold aK
   split
   ·exact hDb.at i i
   ·exact bG _
  have hpz:pre.length<z.c:=hpl
  have hfl:=Qho (gM z.c b.c Sx.d) pre
  have htl:=Qnh (gM z.c b.c Sx.d) pre
  have hcl:=Qi7 (gM z.c b.c Sx.d) pre
  obtain⟨At,ct,rfl⟩:=jP.form
  obtain⟨Ac,cc,rfl⟩:=hOc.form
  rcases hX with rfl|⟨rfl,hnb,o,ho,hmem⟩
  ·simp only[toB,Qd,Qt,Qk,Ql,ay,Qg,QA,eH,Vv,Vi]
   repeat' first|apply jS|apply jO|refine Q7 ?_|apply jB
   refine Q5 aA rfl aH rfl (fun w _ _=>Q2l w _ (aK (gM z.c b.c Sx.d) i) (K2+1) (Qi hdb) oq) fun w v w' _ _ _ hR=>?_
   subst hR
   by_cases hdz:aK (gM z.c b.c Sx.d) i=0
   ·have hn1:¬1<aK (gM z.c b.c Sx.d) i:=by omega
    rw[decide_eq_true hdz]
    repeat' first|apply jO|apply jN|apply jT|refine Q1 ?_|refine Q0 ?_|refine Qb ?_|refine Qj ?_|refine QG (h:=fun _=>?_)|refine ZO (k:=_) (h:=?_)|refine Q8 rfl ?_|apply jW
    rename_i b80
    refine Q29 (A:=_::_::_::_::_::_::_::_::_::Nt) (B:=Nb++N3) hOc (Q66 b80 _).rd (HSub.at 0 rfl (HSub.nil _)) rfl aA rfl rfl rfl rfl oq (fun v' N' aU=>?_)
    rw[WD (.inl hdz),show (dM (gM z.c b.c Sx.d) pre).length+1=(dM (gM z.c b.c Sx.d) (pre++[i])).length by rw[← WD (.inl hdz)];simp]at aU
    obtain⟨A9,c9,rfl⟩:=dX.form aU
    repeat' first|apply jN|refine ZO (k:=_) (h:=?_)|apply jW
    rw[WH hn1]at jP
    have e5:=Qhp (pre:=pre) hdz
    have e4:=WH (pre:=pre) hn1
    exact ZT ⟨_,_,_,N',by rw[← e5, ← e4];rfl,jP,aU⟩ (Cells.cons (Cells.cons (Cells.cons (Cells.cons (Cells.cons (Cells.cons (Cells.cons (jP.cells.app ((aB.cells' aU).app (hOb.cells.app hO3.cells)))))))))) (HSub.skip (HSub.skip (HSub.refl _)))
   ·rw[decide_eq_false hdz]
    by_cases hd1:1<aK (gM z.c b.c Sx.d) i
    ·have hs1:(aK (gM z.c b.c Sx.d) i-1).sign=1:=Int.sign_eq_one_of_pos oq
     repeat' first|apply jS|apply jD|apply jN|apply jT|refine Q0 ?_|refine Q7 ?_|refine Q4 rfl ?_
     refine Q5 aA rfl aH rfl (fun w _ _=>WE w 1 oq oq) fun w v w' _ _ _ hR=>?_
     subst hR
     skip
     refine Q5 aA rfl aH rfl (fun w _ _=>Qj3 w _ _ (aK (gM z.c b.c Sx.d) i) 1 (K2+1) (Qi hdb) (Qi (Yz K2)) oq) fun w v w' _ _ _ hR=>?_
     rw[hs1]at hR
     subst hR
     repeat' first|apply jO|apply jN|apply jT|refine Q0 ?_|refine Qb ?_|refine Q7 ?_|(refine Zg (h1:=?_) (h2:=?_)<;>intro hc<;>try omega)|refine Q8 rfl ?_
     refine X4 (sz:=2) (vs:=[Wv (aK (gM z.c b.c Sx.d) i)]) (cl:=[.bool (wz (aK (gM z.c b.c Sx.d) i)).1,sv (wz (aK (gM z.c b.c Sx.d) i)).2]) rfl rfl (by first|rfl|trivial|exact⟨rfl,rfl⟩) rfl rfl (fun v hv=>by
      cases List.mem_singleton.1 hv;rfl) rfl dq dq (fun b76=>?_)
     have h1:=Q3m b76 (aK (gM z.c b.c Sx.d) i)
     skip
     refine Y3 (A:=_::_::_::_::_::_::_::_::[_]) (B:=Nc++(Nb++N3)) jP h1.rd (HSub.at 0 rfl (HSub.nil _)) rfl aA rfl rfl rfl rfl oq (fun vt' Nt' hOt'=>?_)
     rw[Q6z hd1,show (dL (gM z.c b.c Sx.d) pre).length+1=(dL (gM z.c b.c Sx.d) (pre++[i])).length by rw[← Q6z hd1];simp]at hOt'
     obtain⟨A8,c8,rfl⟩:=aG.form hOt'
     repeat' first|apply jO|apply jN|apply jT|refine Q1 ?_|refine Qb ?_|refine QG (h:=fun _=>?_)|refine ZO (k:=_) (h:=?_)|apply jW
     rename_i b80
     refine Q29 (A:=_::_::_::_::_::_::_::_::_::_::Nt') (B:=Nb++N3) hOc (Q66 b80 _).rd (HSub.at 0 rfl (HSub.nil _)) rfl aA rfl rfl rfl rfl oq (fun v' N' aU=>?_)
     rw[WD (.inr hd1),show (dM (gM z.c b.c Sx.d) pre).length+1=(dM (gM z.c b.c Sx.d) (pre++[i])).length by rw[← WD (.inr hd1)];simp]at aU
     obtain⟨A9,c9,rfl⟩:=dX.form aU
     repeat' first|apply jN|refine ZO (k:=_) (h:=?_)|apply jW
     have e5:=Q3r (pre:=pre) hdz
     exact ZT ⟨_,_,_,N',by rw[← e5];rfl,hOt',aU⟩ (Cells.cons (Cells.cons (Cells.cons (Cells.cons (Cells.cons (Cells.cons (Cells.cons (hOt'.cells.app ((aB.cells' aU).app (hOb.cells.app hO3.cells)))))))))) (HSub.skip (HSub.skip (HSub.skip (HSub.refl _))))
    ·have hs1:(aK (gM z.c b.c Sx.d) i-1).sign≤0:=by
      rcases(show aK (gM z.c b.c Sx.d) i-1=0∨aK (gM z.c b.c Sx.d) i-1<0 by omega)with h|h
      ·rw[h];decide
      ·rw[Int.sign_eq_neg_one_of_neg h];decide
     have hc1:¬(aK (gM z.c b.c Sx.d) i=0∨1<aK (gM z.c b.c Sx.d) i):=by omega
     repeat' first|apply jS|apply jD|apply jN|apply jT|refine Q0 ?_|refine Q7 ?_|refine Q4 rfl ?_
     refine Q5 aA rfl aH rfl (fun w _ _=>WE w 1 oq oq) fun w v w' _ _ _ hR=>?_
     subst hR
     skip
     refine Q5 aA rfl aH rfl (fun w _ _=>Qj3 w _ _ (aK (gM z.c b.c Sx.d) i) 1 (K2+1) (Qi hdb) (Qi (Yz K2)) oq) fun w v w' _ _ _ hR=>?_
     subst hR
     repeat' first|apply jN|apply jT|refine Q0 ?_|(refine Zg (h1:=?_) (h2:=?_)<;>intro hc<;>try omega)|apply jU|apply jE|refine Q4 rfl ?_|apply Qe|refine XY rfl ?_
     all_goals first
      | (exfalso;omega)
      | skip
     have e5:=Q3r (pre:=pre) hdz
     have e4:=WH (pre:=pre) hd1
     have e12:=Qdh (pre:=pre) hc1
     rw[e4]at jP
     rw[e12]at hOc
     exact ZT ⟨_,_,_,_,by rw[← e5, ← e4, ← e12],jP,hOc⟩ (Cells.cons (Cells.cons (Cells.cons (Cells.cons (Cells.cons (Cells.cons (Cells.cons (jP.cells.app ((aB.cells' hOc).app (hOb.cells.app hO3.cells)))))))))) (HSub.skip (HSub.refl _))
  ·cases ho
   have hNt:Nt=[(bd,(.cells #[.bool (wz (aK (gM z.c b.c Sx.d) i)).1,sv (wz (aK (gM z.c b.c Sx.d) i)).2] 35 (0,0)))]:=by
    rcases List.mem_append.1 hmem with h|h
    ·exact absurd (List.mem_map_of_mem (f:=(·.1)) h) (fun h'=>hnb (by
      show bd∈[bx,b12,b10,b6,b5,b4,b2]++keys (Nb++N3)
      exact List.mem_append_left _ h'))
    ·rcases List.mem_append.1 h with h|h
     ·exact(Qck jP h).1
     ·rcases List.mem_append.1 h with h|h
      ·obtain⟨_,cur,hcur⟩:=Qck hOc h
       simp at hcur
      ·refine absurd (List.mem_map_of_mem (f:=(·.1)) h) (fun h'=>hnb ?_)
       refine Ve _ (Ve _ (Ve _ (Ve _ (Ve _ (Ve _ (Ve _ ?_))))))
       exact h'
   subst hNt
   simp only[toB,Qd,Qt,Qk,Ql,ay,Qg,QA,eH,Vv,Vi]
   repeat' first|apply jS|apply jO|refine Q7 ?_|apply jB
   refine Q5 aA rfl aH rfl (fun w _ _=>Q2l w _ (aK (gM z.c b.c Sx.d) i) (K2+1) (Qi hdb) oq) fun w v w' _ _ _ hR=>?_
   subst hR
   by_cases hdz:aK (gM z.c b.c Sx.d) i=0
   ·have hn1:¬1<aK (gM z.c b.c Sx.d) i:=by omega
    rw[decide_eq_true hdz]
    repeat' first|apply jO|apply jN|apply jT|refine Q1 ?_|refine Q0 ?_|refine Qb ?_|refine Qj ?_|refine QG (h:=fun _=>?_)|refine ZO (k:=_) (h:=?_)|refine Q8 rfl ?_|apply jW
    rename_i b80
    refine Q29 (A:=_::_::_::_::_::_::_::_::[_]) (B:=Nb++N3) hOc (Q66 b80 _).rd (HSub.at 0 rfl (HSub.nil _)) rfl aA rfl rfl rfl rfl oq (fun v' N' aU=>?_)
    rw[WD (.inl hdz),show (dM (gM z.c b.c Sx.d) pre).length+1=(dM (gM z.c b.c Sx.d) (pre++[i])).length by rw[← WD (.inl hdz)];simp]at aU
    obtain⟨A9,c9,rfl⟩:=dX.form aU
    repeat' first|apply jN|refine ZO (k:=_) (h:=?_)|apply jW
    rw[WH hn1]at jP
    have e5:=Qhp (pre:=pre) hdz
    have e4:=WH (pre:=pre) hn1
    exact ZT ⟨_,_,_,N',by rw[← e5, ← e4];rfl,jP,aU⟩ (Cells.cons (Cells.cons (Cells.cons (Cells.cons (Cells.cons (Cells.cons (Cells.cons (jP.cells.app ((aB.cells' aU).app (hOb.cells.app hO3.cells)))))))))) (HSub.skip (HSub.refl _))
   ·rw[decide_eq_false hdz]
    by_cases hd1:1<aK (gM z.c b.c Sx.d) i
    ·have hs1:(aK (gM z.c b.c Sx.d) i-1).sign=1:=Int.sign_eq_one_of_pos oq
     repeat' first|apply jS|apply jD|apply jN|apply jT|refine Q0 ?_|refine Q7 ?_|refine Q4 rfl ?_
     refine Q5 aA rfl aH rfl (fun w _ _=>WE w 1 oq oq) fun w v w' _ _ _ hR=>?_
     subst hR
     skip
     refine Q5 aA rfl aH rfl (fun w _ _=>Qj3 w _ _ (aK (gM z.c b.c Sx.d) i) 1 (K2+1) (Qi hdb) (Qi (Yz K2)) oq) fun w v w' _ _ _ hR=>?_
     rw[hs1]at hR
     subst hR
     repeat' first|apply jO|apply jN|apply jT|refine Q0 ?_|refine Qb ?_|refine Q7 ?_|(refine Zg (h1:=?_) (h2:=?_)<;>intro hc<;>try omega)|refine Q8 rfl ?_
     refine X4 (sz:=2) (vs:=[Wv (aK (gM z.c b.c Sx.d) i)]) (cl:=[.bool (wz (aK (gM z.c b.c Sx.d) i)).1,sv (wz (aK (gM z.c b.c Sx.d) i)).2]) rfl rfl (by first|rfl|trivial|exact⟨rfl,rfl⟩) rfl rfl (fun v hv=>by
      cases List.mem_singleton.1 hv;rfl) rfl dq dq (fun b76=>?_)
     have h1:=Q3m b76 (aK (gM z.c b.c Sx.d) i)
     skip
     refine Y3 (A:=_::_::_::_::_::_::_::[_]) (B:=Nc++(Nb++N3)) jP h1.rd (HSub.at 0 rfl (HSub.nil _)) rfl aA rfl rfl rfl rfl oq (fun vt' Nt' hOt'=>?_)
     rw[Q6z hd1,show (dL (gM z.c b.c Sx.d) pre).length+1=(dL (gM z.c b.c Sx.d) (pre++[i])).length by rw[← Q6z hd1];simp]at hOt'
     obtain⟨A8,c8,rfl⟩:=aG.form hOt'
     repeat' first|apply jO|apply jN|apply jT|refine Q1 ?_|refine Qb ?_|refine QG (h:=fun _=>?_)|refine ZO (k:=_) (h:=?_)|apply jW
     rename_i b80
     refine Q29 (A:=_::_::_::_::_::_::_::_::_::Nt') (B:=Nb++N3) hOc (Q66 b80 _).rd (HSub.at 0 rfl (HSub.nil _)) rfl aA rfl rfl rfl rfl oq (fun v' N' aU=>?_)
     rw[WD (.inr hd1),show (dM (gM z.c b.c Sx.d) pre).length+1=(dM (gM z.c b.c Sx.d) (pre++[i])).length by rw[← WD (.inr hd1)];simp]at aU
     obtain⟨A9,c9,rfl⟩:=dX.form aU
     repeat' first|apply jN|refine ZO (k:=_) (h:=?_)|apply jW
     have e5:=Q3r (pre:=pre) hdz
     exact ZT ⟨_,_,_,N',by rw[← e5];rfl,hOt',aU⟩ (Cells.cons (Cells.cons (Cells.cons (Cells.cons (Cells.cons (Cells.cons (Cells.cons (hOt'.cells.app ((aB.cells' aU).app (hOb.cells.app hO3.cells)))))))))) (HSub.skip (HSub.skip (HSub.refl _)))
    ·have hs1:(aK (gM z.c b.c Sx.d) i-1).sign≤0:=by
      rcases(show aK (gM z.c b.c Sx.d) i-1=0∨aK (gM z.c b.c Sx.d) i-1<0 by omega)with h|h
      ·rw[h];decide
      ·rw[Int.sign_eq_neg_one_of_neg h];decide
     have hc1:¬(aK (gM z.c b.c Sx.d) i=0∨1<aK (gM z.c b.c Sx.d) i):=by omega
     repeat' first|apply jS|apply jD|apply jN|apply jT|refine Q0 ?_|refine Q7 ?_|refine Q4 rfl ?_
     refine Q5 aA rfl aH rfl (fun w _ _=>WE w 1 oq oq) fun w v w' _ _ _ hR=>?_
     subst hR
     skip
     refine Q5 aA rfl aH rfl (fun w _ _=>Qj3 w _ _ (aK (gM z.c b.c Sx.d) i) 1 (K2+1) (Qi hdb) (Qi (Yz K2)) oq) fun w v w' _ _ _ hR=>?_
     subst hR
     repeat' first|apply jN|apply jT|refine Q0 ?_|(refine Zg (h1:=?_) (h2:=?_)<;>intro hc<;>try omega)|apply jU|apply jE|refine Q4 rfl ?_|apply Qe|refine XY rfl ?_
     all_goals first
      | (exfalso;omega)
      | skip
     have e5:=Q3r (pre:=pre) hdz
     have e4:=WH (pre:=pre) hd1
     have e12:=Qdh (pre:=pre) hc1
     rw[e4]at jP
     rw[e12]at hOc
     exact ZT ⟨_,_,_,_,by rw[← e5, ← e4, ← e12],jP,hOc⟩ (Cells.cons (Cells.cons (Cells.cons (Cells.cons (Cells.cons (Cells.cons (Cells.cons (jP.cells.app ((aB.cells' hOc).app (hOb.cells.app hO3.cells)))))))))) (HSub.refl _)
 ·rintro D _ ⟨vt,Nt,vc,Nc,rfl,jP,hOc⟩ jA
  obtain⟨At,ct,rfl⟩:=jP.form
  obtain⟨Ac,cc,rfl⟩:=hOc.form
  have hrr:(gM z.c b.c Sx.d).r=z.c:=rfl
  rw[hrr]at jP hOc ⊢
  have hcl:(dM (gM z.c b.c Sx.d) (List.range z.c)).length≤z.c:=by have:=Qi7 (gM z.c b.c Sx.d) (List.range z.c);rwa [List.length_range]at this
  have hfl:iy (gM z.c b.c Sx.d) (List.range z.c)≤z.c:=by have:=Qho (gM z.c b.c Sx.d) (List.range z.c);rwa [List.length_range]at this
  generalize dL (gM z.c b.c Sx.d) (List.range z.c)=T at jP ⊢
  generalize dM (gM z.c b.c Sx.d) (List.range z.c)=C at hOc hcl ⊢
  generalize iy (gM z.c b.c Sx.d) (List.range z.c)=fr at hfl ⊢
  simp only[toS,Qd,Qt,Qk,Ql,ay,Qg,QA]
  repeat' first|apply jS|refine Q3 ?_|refine Qb ?_|refine YB (h:=?_)|apply jO
  refine Qf (A:=[_,_,_,_,_,_,_,_]) (B:=Nt++(Nc++(Nb++N3))) rfl aA rfl aH rfl (fun w hk hs=>Qdn z.r C.length hzr oq w) fun w v w' _ _ _ hR=>?_
  obtain⟨Ng,Eg,hNg,rfl,hOg⟩:=hR
  obtain⟨Ag,cg,rfl⟩:=hOg.form
  refine⟨Ng,hNg,?_⟩
  have hRc:RdI ⟨Tryz.prog,117,w0,[],by simp⟩ Nc (.slice Ac C.length cc) C.length C:=hOc.rd
  repeat' first|apply jS|apply jO|apply jN|apply jT|refine Q1 ?_|refine Qb ?_|refine YB (h:=?_)|refine Q2 ?_|refine Q2 ?_|apply jB
  refine Qp (ι:=Nat × aj × List Int) ⟨fun q=>[(89,nv q.1),(88,nv C.length),(87,.slice Ac C.length cc),(12,.pointer (some ⟨b12,0,none⟩)),(10,.pointer (some ⟨b10,0,none⟩)),(7,.bool true),(6,.pointer (some ⟨b6,0,none⟩)),(5,.pointer (some ⟨b5,0,none⟩)),(4,.pointer (some ⟨b4,0,none⟩)),(2,.pointer (some ⟨b2,0,none⟩))],fun q=>[(D,.deferred (some [])),(bx,.cells #[nv z.c,nv b.c,.slice A3' (z.c*b.c) c3'] 26 (0,0)),(b12,.cells #[.slice Ac C.length cc] 48 (0,0)),(b10,.cells #[nv z.r,nv z.c,.slice Ab (jH z (gM z.c z.c Sx.ui)).e.length cb] 26 (0,0)),(b6,.cells #[nv z.r,nv C.length,.slice Ag (z.r*C.length) cg] 26 (0,0)),(b5,.cells #[nv fr] 3 (0,0)),(b4,.cells #[.slice At T.length ct] 24 (0,0)),(b2,.cells #[nv z.r,nv z.c,.slice A0 z.e.length c0] 26 (0,0))]++(q.2.1++(Nt++(Nc++(Nb++N3)))),
   fun q=>q.1≤C.length∧aG q.2.1 (.slice Ag (z.r*C.length) cg) (z.r*C.length) q.2.2,fun q=>C.length-q.1⟩ (0,Ng,_) ⟨V9 _,hOg⟩ aF (HSub.refl _) (fun q hq=>?_)
  clear hOg
  obtain⟨j,Ng,gs⟩:=q
  obtain⟨hjC,hOg⟩:=hq
  dsimp only at hjC hOg ⊢
  by_cases hj:j<C.length
  ·repeat' first|apply jS|apply jO|apply jN|apply jT|refine Q1 ?_|refine Q3 ?_|refine Q0 ?_|refine Qb ?_|refine Q8y (h:=?_)|refine Qgl (h:=?_)|(refine Qs (h1:=?_) (h2:=?_)<;>intro hc<;>try omega)|apply jK|refine Q8 rfl ?_|apply jB
   refine Qp (ι:=Nat × aj × List Int) ⟨fun q=>[(96,nv q.1),(95,nv z.r),(16,iv (C.getD j 0)),(15,nv j),(89,nv j),(88,nv C.length),(87,.slice Ac C.length cc),(12,.pointer (some ⟨b12,0,none⟩)),(10,.pointer (some ⟨b10,0,none⟩)),(7,.bool true),(6,.pointer (some ⟨b6,0,none⟩)),(5,.pointer (some ⟨b5,0,none⟩)),(4,.pointer (some ⟨b4,0,none⟩)),(2,.pointer (some ⟨b2,0,none⟩))],fun q=>[(D,.deferred (some [])),(bx,.cells #[nv z.c,nv b.c,.slice A3' (z.c*b.c) c3'] 26 (0,0)),(b12,.cells #[.slice Ac C.length cc] 48 (0,0)),(b10,.cells #[nv z.r,nv z.c,.slice Ab (jH z (gM z.c z.c Sx.ui)).e.length cb] 26 (0,0)),(b6,.cells #[nv z.r,nv C.length,.slice Ag (z.r*C.length) cg] 26 (0,0)),(b5,.cells #[nv fr] 3 (0,0)),(b4,.cells #[.slice At T.length ct] 24 (0,0)),(b2,.cells #[nv z.r,nv z.c,.slice A0 z.e.length c0] 26 (0,0))]++(q.2.1++(Nt++(Nc++(Nb++N3)))),
    fun q=>q.1≤z.r∧aG q.2.1 (.slice Ag (z.r*C.length) cg) (z.r*C.length) q.2.2,fun q=>z.r-q.1⟩ (0,Ng,gs) ⟨V9 _,hOg⟩ aF (HSub.refl _) (fun q hq=>?_)
   clear hOg
   obtain⟨i,Ng,gs⟩:=q
   obtain⟨hir,hOg⟩:=hq
   dsimp only at hir hOg ⊢
   have hic:i*C.length≤40000:=Vr (show i≤200 by omega) (show C.length≤200 by omega)
   by_cases hi:i<z.r
   ·have hlt:=Q0z hi hj
    have hic2:i*C.length+j≤40200:=by omega
    repeat' first|apply jS|apply jO|apply jN|apply jT|refine Q1 ?_|refine Q0 ?_|(refine Qs (h1:=?_) (h2:=?_)<;>intro hc<;>try omega)|apply jK|refine Q8 rfl ?_|apply jB
    refine Z7 [(b6,.cells #[nv z.r,nv C.length,.slice Ag (z.r*C.length) cg] 26 (0,0)),(b10,.cells #[nv z.r,nv z.c,.slice Ab (jH z (gM z.c z.c Sx.ui)).e.length cb] 26 (0,0))] (HSub.at 4 rfl (HSub.at 3 rfl (HSub.nil _))) ?_
    repeat' first|refine Q1 ?_|refine Q3 ?_|refine Qb ?_|refine Q7 ?_|refine Zf (h:=?_)|refine ZK (h:=?_)|fail
    refine Q5 aA rfl aH rfl (fun w hk hs=>c_At w _ (jH z (gM z.c z.c Sx.ui)) (i:Int) (C.getD j 0) (Xg hzr hzc) ⟨_,rfl,hOb.rd.at hk hs (by
     simp only[Vi,Vv]
     exact HSub.skip (HSub.skip (HSub.skip (HSub.skip (HSub.skip (HSub.skip (HSub.skip (HSub.skip (Qr (Qr (Qr QI)))))))))))⟩) fun w v w' _ _ _ hR=>?_
    subst hR
    repeat' first|refine Zn (h:=?_)|fail
    refine Q27 (A:=[_,_,_,_,_,_,_,_]) hOg rfl rfl aA rfl rfl hlt (fun N' aU=>?_)
    repeat' first|apply jO|apply jN|apply jT|refine Q1 ?_|refine Qj ?_|apply jW
    exact Qa (i+1,N',_) ⟨by dsimp only;omega,aU⟩ aY aF (HSub.refl _)
   ·repeat' first|apply jS|apply jO|apply jN|apply jT|refine Q1 ?_|refine Qj ?_|(refine Qs (h1:=?_) (h2:=?_)<;>intro hc<;>try omega)|apply jU|apply jE|refine Q4 rfl ?_|apply jW|apply Qe
    exact Qa (j+1,Ng,gs) ⟨by dsimp only;omega,hOg⟩ aY aF (HSub.refl _)
  ·repeat' first|apply jS|apply jO|apply jN|apply jT|(refine Qs (h1:=?_) (h2:=?_)<;>intro hc<;>try omega)|apply jU|apply jE|refine Q4 rfl ?_|apply Qe
   refine Z7 [(b4,.cells #[.slice At T.length ct] 24 (0,0)),(b5,.cells #[nv fr] 3 (0,0)),(b6,.cells #[nv z.r,nv C.length,.slice Ag (z.r*C.length) cg] 26 (0,0))] (HSub.at 6 rfl (HSub.at 5 rfl (HSub.at 4 rfl (HSub.nil _)))) ?_
   repeat' first|refine Qb ?_|refine Q7 ?_|fail
   refine Q1b 6 rfl rfl rfl rfl rfl rfl Nat.one_pos (HSub.at 6 rfl (HSub.at 5 rfl (HSub.at 4 rfl (HSub.nil _)))) ?_
   refine Q1b 5 rfl rfl rfl rfl rfl rfl Nat.one_pos (HSub.at 6 rfl (HSub.at 5 rfl (HSub.at 4 rfl (HSub.nil _)))) ?_
   refine ZW 4 rfl rfl rfl rfl rfl rfl rfl (HSub.at 6 rfl (HSub.at 5 rfl (HSub.at 4 rfl (HSub.nil _)))) ?_
   repeat' first|apply jN|apply jT|refine Q0 ?_|apply jR
   refine XW 0 rfl jA rfl ?_
   refine YI [.slice At T.length ct,nv fr,.agg #[nv z.r,nv C.length,.slice Ag (z.r*C.length) cg],.bool true] (Q05 5 rfl rfl rfl (Q05 4 rfl rfl rfl (ZU 3 rfl rfl rfl (JR.tmp rfl JR.nil)))) (fun a' w' st=>⟨st.kp,Nt,At,ct,_,_,Ng,gs,st.aS rfl ?_,jP,rfl,hOg,hcl⟩)
   exact HSub.skip (HSub.skip (HSub.skip (HSub.skip (HSub.skip (HSub.skip (HSub.skip (by show HSub (Ng++Nt) (Ng++(Nt++(Nc++(Nb++N3))));exact ZX QI)))))))

theorem Qh7 {A B:aj} {w w':World} (h:New (A++B) w w'):New B w w' :=
 ⟨by have:=h.nd;rw[Vl,List.nodup_append]at this;exact this.2.1,fun p hp=>h.ge p (List.mem_append_right _ hp),fun p hp=>h.blk p (List.mem_append_right _ hp)⟩
theorem Qn0 (K fc f L K2 fc2 f2:Nat) (w0:World) (v u:Value) (z b:ZM) (Sz Sx:Sm) (hz:cO z) (hb:cO b) (hzb:b.r=z.r) (hv:fO w0 v z) (hu:fO w0 u b) (hK:K+1+K+1+L+2≤26000000000000) (hK2:K+K2+3≤13000000000000) (hbz:cZ (K+1) z) (hbb:cZ L b) (hrk:(dH Sz.d (min z.r z.c)).length=z.c)
  (hf:ZF (K+1) fc f z.r z.c (min z.r z.c) 0 (QY z.r z.c (QZ z))=some Sz) (hw:∀ j,j<b.c→YC (gM z.r z.c Sz.d) (bI (gM z.r z.r Sz.u) (jr b j))=none)
  (hbx:cZ (K2+1) (corZ Sz z b)) (hf2:ZF (K2+1) fc2 f2 z.c b.c (min z.c b.c) 0 (QY z.c b.c (QZ (corZ Sz z b)))=some Sx) :
  Calls Tryz.prog 23 #[v,u] w0 (aP fun v w'=>Kp [] w0 w'∧∃ N A c Ag cg,New N w0 w'∧aG N (.slice A (dL (gM z.c b.c Sx.d) (List.range z.c)).length c) (dL (gM z.c b.c Sx.d) (List.range z.c)).length (dL (gM z.c b.c Sx.d) (List.range z.c))∧v=.tuple #[.slice A (dL (gM z.c b.c Sx.d) (List.range z.c)).length c,nv (iy (gM z.c b.c Sx.d) (List.range z.c)),.agg #[nv z.r,nv (dM (gM z.c b.c Sx.d) (List.range z.c)).length,.slice Ag (z.r*(dM (gM z.c b.c Sx.d) (List.range z.c)).length) cg],.bool true]) :=
 QN (Qpz K fc f L K2 fc2 f2 w0 v u z b Sz Sx hz hb hzb hv hu hK hK2 hbz hbb hrk hf hw hbx hf2) fun v w' h=>⟨h.1,by
  obtain⟨N,A,c,Ag,cg,Ng,gs,h1,h2,h3,h4,h5⟩:=h.2
  exact⟨N,A,c,Ag,cg,Qh7 h1,h2,h3⟩⟩

end Go.Proofs.YtljmapfihjkafaaGreatDoor

