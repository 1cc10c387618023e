import Derived.Test.YtljmapfihjkafaaGreatDoorMk
import Derived.Test.YtljmapfihjkafaaGreatDoorMg
set_option maxHeartbeats 16000000
namespace Go.Proofs.YtljmapfihjkafaaGreatDoor
open Go Go.RowKit
set_option linter.unusedSimpArgs false
set_option linter.unusedVariables false
set_option linter.unusedSectionVars false

def appL (m:ZM) (xs:List Int):List Int:=tab m.r fun i=>rowS m xs i m.c
theorem Q8a (m:ZM) (xs:List Int):(mulZ m (colZ xs)).e=appL m xs:=by
 show tbz m.r 1 (mmI m.c m.at (colZ xs).at)=tab m.r _
 unfold tbz
 rw[Nat.mul_one]
 refine Zo fun i hi=>?_
 rw[Nat.div_one,Nat.mod_one]
 refine Q09 fun k _=>?_
 show m.at i k*xs.getD (k*1+0) 0=_
 rw[Nat.mul_one,Nat.add_zero]
theorem W0 (m:ZM) (xs:List Int):(appL m xs).length=m.r:=by simp[appL]
theorem Q61 {K L:Nat} {m:ZM} {xs:List Int} (hm:RtZ m) (hx:BdZ K m) (hy:BdL L xs):BdL (K+L+1) (appL m xs):=fun i=>by
 by_cases h:i<m.r
 ·unfold appL
  rw[ZG h]
  exact Qcm hm.c fun a=>YF (hx.at i a) (hy a)
 ·rw[List.getD,List.getElem?_eq_none (by rw[W0];omega)];exact pos256 _
theorem Qkd {m:ZM} {xs bs:List Int} (h:xs.length=m.c):SolP m xs bs↔appL m xs=bs:=by
 constructor
 ·intro hs
  exact(Q5j (d:=0) (by rw[W0,hs.2.1]) fun i hi=>by
   rw[W0]at hi
   unfold appL
   rw[ZG hi];exact hs.2.2 i hi)
 ·intro he
  refine⟨h,by rw[← he,W0],fun i hi=>?_⟩
  rw[← he]
  unfold appL
  rw[ZG hi]


theorem Q2u {w:World} {b:Nat} {o:Obj} (h:w.heap[b]?=some o):b<w.heap.size:=(Array.getElem?_eq_some_iff.1 h).1


theorem Qg7 {m:ZM} {i j:Nat} (hi:i<m.r) (hj:j<m.c):atZ m i j=m.at i j:=by
 unfold atZ
 rw[if_pos ⟨by omega,by omega,by omega,by omega⟩,Int.toNat_natCast,Int.toNat_natCast]

end Go.Proofs.YtljmapfihjkafaaGreatDoor

namespace Go.Proofs.YtljmapfihjkafaaGreatDoor
open Go Go.RowKit Go.Shelf
set_option linter.unusedSimpArgs false
set_option linter.unusedVariables false
set_option linter.unusedSectionVars false

def bodyEndS (J Jr:SHeap→Prop) (c:Cx):Exit→Act→World→Prop
 | .normal,a,w=>∃ F H,J H∧Cells H∧St c F H a w
 | .ret,a,w=>∃ F H,Jr H∧Cells H∧St c F H a w
 | _,_,_=>False
theorem Zl {c:Cx} {F:SFrame} {H H':SHeap} {J Jr:SHeap→Prop} (hJ:J H') (hc:Cells H') (hs:HSub H' H):JX c (bodyEndS J Jr c) .normal F H :=
 ⟨fun a w st=>⟨[],H',hJ,hc,st.part trivial hs⟩⟩
theorem Q8y {c:Cx} {F:SFrame} {H H':SHeap} {J Jr:SHeap→Prop} (hJ:Jr H') (hc:Cells H') (hs:HSub H' H):JX c (bodyEndS J Jr c) .ret F H :=
 ⟨fun a w st=>⟨[],H',hJ,hc,st.part trivial hs⟩⟩
theorem RSt.exS {wb:World} {c:Cx} {H:SHeap} {W:World} {ob:Option Obj} {b n0:Nat} (h:RSt wb c H W) (hx:exOk n0 W ob b) (h1:wb.heap.size≤n0) (h2:c.w0.heap.size≤n0) (hd:∀ o,ob=some o→∀ p∈H,p.2≠o∨p.1<n0):RSt wb c (exH ob b++H) W:=by
 cases ob with
 | none=>exact h
 | some o =>
  obtain⟨hb,hn,hc⟩:=hx
  refine⟨h.hs.cons hb (fun hm=>?_),fun p hp=>?_,h.kp,h.kb,fun p hp=>?_,fun p hp=>?_⟩
  ·obtain⟨p,hp,e⟩:=List.mem_map.1 hm
   have:=h.hs.blk p hp
   rw[e,hb]at this
   rcases hd o rfl p hp with h'|h'
   ·exact h' (Option.some.inj this).symm
   ·omega
  all_goals
   rcases List.mem_cons.1 hp with rfl|hp
  ·exact .inl (Nat.le_trans h2 hn)
  ·exact h.wr p hp
  ·exact Nat.le_trans h1 hn
  ·exact h.ge p hp
  ·exact hc
  ·exact h.cells p hp

def IterK (P:Program) (gf:Nat) (lb:Array Value) (u v:Nat→Value) (N:Nat) (ks:List Nat) (pr:World→Prop):Prop :=
 ∀ (n:Nat) (W:World),1≤n→pr W→SeqStopsK Fence.wide n P gf lb (fun i:{i:Nat // i<N}=>#[u i.1,v i.1]) (KB ks) (fun ys=>ys.map (·.1)=List.range N) (fun pre=>pre.map (·.1)=List.range pre.length) N W

def Stays (wb:World) (q:Nat) (Iv Ir:List Nat→SHeap→Prop):Prop:=q<wb.heap.size∨∃ o,(∀ k H',Iv k H'→(q,o)∈H')∧∀ k H',Ir k H'→(q,o)∈H'

section
variable {c:Cx} {Q:Exit→Act→World→Prop} {F:SFrame} {H:SHeap} {g:Operand} {p1 p2:Tmp} {assign body tail:Code} {gf:Nat} {lb:Array Value} {u v:Nat→Value} {N bx:Nat} {box:Obj} {ks:List Nat} {pr:World→Prop} {fn:Func} {R:Ending→World→Prop}

theorem Qik {wb:World} {od:List Od} (hm:c.P.follows .mixedOrders=true) {Iv Ir:List Nat→SHeap→Prop} (hbx:∀ k H',Iv k H'→(bx,box)∈H') (hbr:∀ k H',Ir k H'→(bx,box)∈H') (hks:∀ q∈ks,Stays wb q Iv Ir) {FA:Nat→SFrame} {ob:Option Obj} {B n0 l m:Nat} {pre:List {i:Nat // i<N}} {i:{i:Nat // i<N}} {a':Act} {W1:World} (hokb:okB c.P od body=true) (hl:∃ r,W1.heap[l]?=some (.loop r)) (hI:RInv wb c n0 Iv pre W1) (hA:AsgX c.n n0 FA ob a' W1) (hn0:wb.heap.size≤n0) (hn1:c.w0.heap.size≤n0)
  (hd:∀ o,ob=some o→∀ k H',Iv k H'→∀ p∈H',p.2≠o∨p.1<n0)
  (hbody:∀ b H' hM',Iv (pre.map (·.1)) H'→l∉keys (exH ob b++H')→Kp [] wb W1→(∀ p∈exH ob b++H',wb.heap.size≤p.1)→JC ⟨c.P,c.n,W1,keys (exH ob b++H'),hM'⟩ (bodyEndS (Iv (pre.map (·.1)++[i.1])) (Ir (pre.map (·.1)++[i.1])) ⟨c.P,c.n,W1,keys (exH ob b++H'),hM'⟩) (toB l m od body) (FA b) (exH ob b++H')) :
  body.wpIn (Fence.wide.inRound l) m c.P (ownPostG B (KB ks) (RInv wb c n0 Iv) (fun cd xs W=>cd=.ret∧RInv wb c n0 Ir xs W) (pre++[i]) W1) a' W1:=by
 obtain⟨hsz,H0,hi,hR0⟩:=hI
 obtain⟨b,hA,hx⟩:=hA
 have hR:=hR0.exS hx hn0 hn1 (fun o ho=>hd o ho _ _ hi)
 obtain⟨r,hr⟩:=hl
 have hln:l∉keys (exH ob b++H0):=fun hm'=>by
  obtain⟨p,hp,rfl⟩:=List.mem_map.1 hm'
  have h1:=hR.hs.blk p hp
  rw[hr]at h1
  have h2:=hR.cells p hp
  rw[← Option.some.inj h1]at h2;cases h2
 have hM':=Z1 hR.hs
 refine wpIn_mono (QV (c:=⟨c.P,c.n,W1,keys (exH ob b++H0),hM'⟩) l m od hm body _ _ _ hokb ((hbody b H0 hM' hi hln hR.kb hR.ge).h _ _ ⟨hA,Kp.refl _ _,hR.hs,fun p hp=>.inr (List.mem_map.2 ⟨p,hp,rfl⟩)⟩)) (fun e a w hq=>?_)
 cases e with
 | normal =>
  obtain⟨F2,H2,hJ,hc2,st2⟩:=hq
  obtain⟨h1,h2,h3⟩:=Xb (c2:=⟨c.P,c.n,W1,keys (exH ob b++H0),hM'⟩) B bx box hR rfl st2 hc2 (List.mem_append_right _ (hbx _ _ hi)) (hbx _ _ hJ)
  exact⟨h1,fun q hq=>(by
   rcases hks q hq with h|⟨o,ho,_⟩
   ·exact(h3.kb.block q h spq).trans (hR.kb.block q h spq).symm
   ·exact(h3.hs.blk _ (ho _ _ hJ)).trans (hR0.hs.blk _ (ho _ _ hi)).symm),Nat.le_trans hsz st2.kp.size,H2,by rw[List.map_append];exact hJ,h3⟩
 | ret =>
  obtain⟨F2,H2,hJ,hc2,st2⟩:=hq
  obtain⟨h1,h2,h3⟩:=Xb (c2:=⟨c.P,c.n,W1,keys (exH ob b++H0),hM'⟩) B bx box hR rfl st2 hc2 (List.mem_append_right _ (hbx _ _ hi)) (hbr _ _ hJ)
  exact⟨h1,rfl,Nat.le_trans hsz st2.kp.size,H2,by rw[List.map_append];exact hJ,h3⟩
 | _=>exact hq.elim

theorem Q11 {od:List Od} (wb:World) (hwb:c.w0=wb) (hm:c.P.follows .mixedOrders=true) (hM:c.M=[]) (hg:ev F g=some (.func (.func gf) #[] lb)) (eg:∀ args w,(callFunc gf args).run c.P w=.ok (.enter gf args) w)
  (it:IterK c.P gf lb u v N ks pr) (Iv Ir:List Nat→SHeap→Prop) (hbx:∀ k H',Iv k H'→(bx,box)∈H') (hbr:∀ k H',Ir k H'→(bx,box)∈H') (hks:∀ q∈ks,Stays wb q Iv Ir) (hcl:∀ k H',Iv k H'→Cells H') (H0:SHeap) (h0:Iv [] H0) (hH0:HSub H0 H) (hpr:∀ W,Kp [] wb W→Hsat H0 W→pr W) (FA:Nat→Nat→SFrame) (ob:Nat→Option Obj) (hd:∀ i o,ob i=some o→∀ k H',Iv k H'→∀ p∈H',p.2≠o∨p.1∈keys H0)
  (hp1:Nat.blt p1 c.n=true) (hp2:Nat.blt p2 c.n=true) (hoka:okB c.P od assign=true) (hokb:okB c.P od body=true) (htl:tailOK tail=true) (hQ:∀ a w,tail.wp c.P (bodyPostM Fence.wide 5 c.P fn R) a w→Q .normal a w) (hQr:∀ a w,bodyPostM Fence.wide 5 c.P fn R .ret a w→Q .ret a w)
  (hassign:∀ l i W hW,JC ⟨c.P,c.n,W,[],hW⟩ (asgEnd c.n (FA i) (ob i) ⟨c.P,c.n,W,[],hW⟩) (toB l 3 od assign) ((p2,v i)::(p1,u i)::F) [])
  (hbody:∀ l i pre b H' W1 hM',i<N→pre.length<N→Iv pre H'→(∃ r,W1.heap[l]?=some (.loop r))→l∉keys (exH (ob i) b++H')→Kp [] wb W1→(∀ p∈exH (ob i) b++H',wb.heap.size≤p.1)→JC ⟨c.P,c.n,W1,keys (exH (ob i) b++H'),hM'⟩ (bodyEndS (Iv (pre++[i])) (Ir (pre++[i])) ⟨c.P,c.n,W1,keys (exH (ob i) b++H'),hM'⟩) (toB l 3 od body) (FA i b) (exH (ob i) b++H'))
  (hdone:∀ D H',Iv (List.range N) H'→wb.heap.size≤D→JC c (fun e a w=>bodyPostM Fence.wide 5 c.P fn R e (ad [{ target:=.collected D,args:=#[] }] a) w) (toS od tail) F ((D,.deferred (some []))::H'))
  (hstop:∀ D k H',Ir (List.range k) H'→wb.heap.size≤D→JX c (fun e a w=>bodyPostM Fence.wide 5 c.P fn R e (ad [{ target:=.collected D,args:=#[] }] a) w) .ret F ((D,.deferred (some []))::H')) :
  JC c Q (.raw (.rangeFunc g #[p1,p2] assign body)) F H:=by
 subst hwb
 refine⟨fun a W st=>?_⟩
 obtain⟨tm,df⟩:=a
 obtain rfl:df=[]:=st.fr.defers
 have st0:=st.heap hH0
 have hkp:Kp [] c.w0 W:=by have:=st.kp;rwa [hM]at this
 have hI0:RInv (N:=N) c.w0 c W.heap.size Iv [] W:=⟨Nat.le_refl _,H0,h0,st0.hs,st0.wr,st.kp,hkp,fun p hp=>(by
  rcases st0.wr p hp with h|h
  ·exact h
  ·rw[hM]at h;cases h),hcl _ _ h0⟩
 have hWs:c.w0.heap.size≤W.heap.size:=st.kp.size
 have hbxW:=st0.hs.blk _ (hbx _ _ h0)
 have hbxlt:bx<W.heap.size:=(Array.getElem?_eq_some_iff.1 hbxW).1
 have hkl:=Z1 st0.hs
 have hkq:∀ q∈ks,q<W.heap.size:=fun q hq=>by
  rcases hks q hq with h|⟨o,ho,_⟩
  ·exact Nat.lt_of_lt_of_le h hkp.size
  ·exact hkl q (List.mem_map.2 ⟨_,ho _ _ h0,rfl⟩)
 refine wpIn_wide.1 (wpIn_rangeFunc_ownH (F:=Fence.wide) (n:=5) rfl oq (gf:=gf) (lb:=lb) (st.fr.ev hg) trivial eg
  (it 4 W oq (hpr W hkp st0.hs)) KB.trans (fun W' l o o' hl ho _ _ q hq=>?_) (Below.refl _ _) (fun _=>rfl)
  (RInv c.w0 c W.heap.size Iv) (fun cd xs W'=>cd=.ret∧RInv c.w0 c W.heap.size Ir xs W') (W4 hWs hWs) (fun cd xs A B row hs hg hr=>⟨hs.1,W4 hWs hWs xs A B row hs.2 hg hr⟩) hI0 (fun i a W'=>AsgX c.n W.heap.size (FA i.1) (ob i.1) a W') (fun _ _=>Q1r) ?assign ?body ?done ?stop)
 ·have hql:=hkq q hq
  exact World.putObj_heap_other (fun e=>by omega)
 case assign =>
  intro l pre i W1 K hI hK
  have hW1:W.heap.size≤W1.heap.size:=hI.1
  rw[zip2]
  refine wpIn_mono (QV (c:=⟨c.P,c.n,W1,[],by simp⟩) l 3 od hm assign _ _ _ hoka ((hassign l i.1 W1 spq).h _ _ ⟨?_,Kp.refl _ _,⟨by simp,by simp⟩,fun p hp=>by cases hp⟩)) (fun e a w hq=>?_)
  ·exact(st.fr.set' (u i.1) hp1).set' (v i.1) hp2
  ·cases e with
   | normal =>
    obtain⟨h1,h2,h3⟩:=Qb2 (B:=W.heap.size) hI hbx hq.1
    exact hK _ _ h1 (fun q hq'=>hq.1.block q (Nat.lt_of_lt_of_le (hkq q hq') hW1) spq) h3 (hq.2.le hW1)
   | _=>exact hq.elim
 case body =>
  intro l pre i a' W1 hl hr hI hA hlen
  exact Qik hm hbx hbr hks hokb hr hI hA (Nat.le_trans hkp.size (Nat.le_refl _)) hWs (fun o ho k H' hH' p hp=>(hd i.1 o ho k H' hH' p hp).imp id fun h=>hkl _ h) (fun b H' hM' hi hln hkb hge=>hbody l i.1 _ b H' W1 hM' i.2 (by rw[List.length_map];exact hlen) hi hr hln hkb hge)
 case done =>
  intro D ys W1 hD hys hI hDd
  obtain⟨_,H',hi,hR⟩:=hI
  rw[hys]at hi
  have hD2:c.w0.heap.size≤D:=Nat.le_trans hWs hD
  have hDn:D∉H'.map (·.1):=fun hm=>by
   obtain⟨p,hp,rfl⟩:=List.mem_map.1 hm
   have h1:=hR.hs.blk p hp
   rw[hDd]at h1
   have h2:=hR.cells p hp
   rw[← Option.some.inj h1]at h2;cases h2
  refine hQ _ _ (Yf (c:=c) od [{ target:=.collected D,args:=#[] }] tail (fun e a w=>bodyPostM Fence.wide 5 c.P fn R e (ad [{ target:=.collected D,args:=#[] }] a) w) _ htl (fun e a w h=>h) { tmps:=tm,defers:=[] } W1 ((hdone D H' hi hD2).h _ _ ⟨st.fr,hR.kp,hR.hs.cons hDd hDn,fun p hp=>?_⟩))
  rcases List.mem_cons.1 hp with rfl|hp
  ·exact .inl hD2
  ·exact hR.wr p hp
 case stop =>
  intro D cd pre W1 hD hpre h hDd
  obtain⟨rfl,hI⟩:=h
  obtain⟨_,H',hi,hR⟩:=hI
  rw[hpre]at hi
  have hD2:c.w0.heap.size≤D:=Nat.le_trans hWs hD
  have hDn:D∉H'.map (·.1):=fun hm=>by
   obtain⟨p,hp,rfl⟩:=List.mem_map.1 hm
   have h1:=hR.hs.blk p hp
   rw[hDd]at h1
   have h2:=hR.cells p hp
   rw[← Option.some.inj h1]at h2;cases h2
  refine wpIn_ret (hQr _ _ ((hstop D _ H' hi hD2).h { tmps:=tm,defers:=[] } W1 ⟨st.fr,hR.kp,hR.hs.cons hDd hDn,fun p hp=>?_⟩))
  rcases List.mem_cons.1 hp with rfl|hp
  ·exact .inl hD2
  ·exact hR.wr p hp

end


theorem Qjw {P:Program} {ops:Array Oper} {D:List Deferred} {next next':Act→World→Prop} {Q Q':Exit→Act→World→Prop} {i:Nat} {a:Act} {w:World} (hn:∀ a w,next a w→next' (ad D a) w) (hQ:∀ e a w,Q e a w→Q' e (ad D a) w) (h:wpOp P ops Q i next a w):wpOp P ops Q' i next' (ad D a) w:=by
 unfold wpOp at h ⊢
 cases ho:ops[i]? with
 | none =>
  simp only[ho]at h ⊢
  exact hn _ _ h
 | some o =>
  simp only[ho]at h ⊢
  have e:(ad D a).tmps=a.tmps:=rfl
  rw[e]
  split at h
  ·rename_i hw
   rw[if_pos hw]
   rcases h with h|⟨h,a',w',h'⟩
   ·refine .inl ?_
    unfold Oper.wp at h ⊢
    rw[Qg9]
    exact Qc3 hn hQ h
   ·exact .inr ⟨h,_,_,hQ _ _ _ h'⟩
  ·rename_i hw
   rw[if_neg hw,Q7n]
   exact hn _ _ h
theorem Q94 {P:Program} {md:Region.Mode} {ops:Array Oper} {D:List Deferred} {Q Q':Exit→Act→World→Prop} (hQ:∀ e a w,Q e a w→Q' e (ad D a) w):∀ (fuel:Nat) (listed:Array Bool) (a:Act) (w:World),wpAny P md ops Q fuel listed a w→wpAny P md ops Q' fuel listed (ad D a) w
 | 0,_,_,_,h=>⟨h.1,hQ _ _ _ h.2⟩
 | fuel+1,_,_,_,h=>⟨fun hr=>hQ _ _ _ (h.1 hr),fun i hi=>Qjw (fun a w h=>Q94 hQ fuel _ a w h) hQ (h.2 i hi)⟩
theorem Q03 {c:Cx} {kd:Nat→Op→Kind} {Q Q':Exit→Act→World→Prop} {D:List Deferred} {id tail:Nat} {order:List Nat} {ops:Array Oper} {F:SFrame} {H Hs:SHeap} {a:Act} {w:World} (hQ:∀ e a w,Q e a w→Q' e (ad D a) w)
  (hm:c.P.follows .mixedOrders=true) (hB:canonB c.P kd ops order tail=true) (st:St c F H a w) (hHs:Hsat Hs w) (h:JL c (Q .normal) (.draw Hs true) (sopsAt kd ops tail order) F H) :
  (Code.region id ops true).wp c.P Q' (ad D a) w:=by
 simp only[canonB,Bool.and_eq_true]at hB
 obtain⟨hs,ht,hal,hl,hc,hu⟩:=hB
 have hl:order.length=ops.size:=by simpa using hl
 refine wp_region_any hm (Q94 (Q:=Only (Q .normal)) (fun e a w h=>hQ _ _ _ (Only.up e a w h)) _ _ _ _ (X3 (kd:=kd) (S:=Src c Hs) _ _ _ _ ?_))
 have st':St c F H a { w with drawn:=w.drawn+1 }:=⟨st.fr,st.kp.trans (Kp.drew _ _),st.hs.kp (Kp.drew [] w) spq,st.wr⟩
 have hU:∀ i,i<ops.size→isU c.P kd ops i=true→apartU c.P kd ops (Array.replicate ops.size false) i=true:=fun i hi hx=>by
  have:=List.all_eq_true.1 hu i (List.mem_range.2 hi)
  simpa [hx] using this
 refine sim (Q:=Only (Q .normal)) (K:=Q .normal) hs hU (fun a w h=>h) (fun ch a a' w h=>h.elim) order _ hc ht ops.size true _ H F (fun _=>none) a a _ h ?_ ?_
 ·refine⟨st',fun _=>hHs.kp (Kp.drew [] w) spq,⟨rfl,rfl,(fun e ob o d h=>by cases h),fun s _=>rfl⟩,⟨fun e ob h=>(by cases h),fun e ob h=>(by cases h),fun e ob o h=>(by cases h),fun e ob o h=>(by cases h),fun e b o h=>(by cases h),fun e b h=>(by cases h),fun e e' b h=>(by cases h)⟩,
   by simp,by simp,fun j hj=>by simp,fun j hj _=>?_,.inl rfl⟩
  have:=List.all_eq_true.1 hal j (List.mem_range.2 hj)
  simpa using this
 ·exact hl▸List.countP_le_length

def tailOK2:Code→Bool
 | .region _ _ _=>true
 | .seq a b=>tailOK2 a && tailOK2 b
 | .cond _ a b=>tailOK2 a && tailOK2 b
 | .block _ a=>tailOK2 a
 | .loop a=>tailOK2 a
 | .exit _=>true
 | .skip=>true
 | .ret=>true
 | _=>false
theorem Qbi {D:List Deferred} {Q Q':Exit→Act→World→Prop} {id:Nat} (hQ:∀ e a w,Q e a w→Q' e (ad D a) w):∀ e a w,Exit.inBlock id Q e a w→Exit.inBlock id Q' e (ad D a) w:=by
 intro e a w h
 cases e<;>simp only[Exit.inBlock]at h ⊢ <;> first|exact hQ _ _ _ h|(split at h<;>rename_i hc<;>simp only[hc,if_true,if_false]at h ⊢ <;> exact hQ _ _ _ h)

theorem Zf {c:Cx} (od:List Od) (D:List Deferred) (hm:c.P.follows .mixedOrders=true):∀ (s:Code) (Q Q':Exit→Act→World→Prop),tailOK2 s=true→okS c.P od s=true→(∀ e a w,Q e a w→Q' e (ad D a) w)→∀ a w,(toS od s).wp c Q a w→s.wp c.P Q' (ad D a) w
 | .region id ops false,Q,Q',_,_,hQ,a,w,h=>by
  obtain⟨F,H,st,h⟩:=h
  obtain⟨kd,hl,he⟩:=Yx (odAt od id).ov ops ops.toList 0
  rw[he]at h
  have:=Yh (P:=c.P) (ops:=ops) (Q:=Q) rfl _ F H h a w st
  rw[List.map_fst_zip oq]at this
  exact wp_region_list (Wt hQ this)
 | .region id ops true,Q,Q',_,hk,hQ,a,w,h=>by
  obtain⟨F,H,Hs,st,hHs,h⟩:=h
  exact Q03 hQ hm hk st hHs h
 | .seq x y,Q,Q',ht,hk,hQ,a,w,h=>by
  simp only[tailOK2,Bool.and_eq_true]at ht
  simp only[okS,Bool.and_eq_true]at hk
  refine wp_seq (Zf od D hm x _ _ ht.1 hk.1 (fun e a w hq=>?_) a w h)
  cases e<;>first|exact hQ _ _ _ hq|exact Zf od D hm y _ _ ht.2 hk.2 hQ _ _ hq
 | .cond x y z,Q,Q',ht,hk,hQ,a,w,h=>by
  simp only[tailOK2,Bool.and_eq_true]at ht
  simp only[okS,Bool.and_eq_true]at hk
  obtain⟨t,hc,h1,h2⟩:=h
  exact wp_cond_split (a:=ad D a) hc (fun e=>Zf od D hm y _ _ ht.1 hk.1 hQ _ _ (h1 e)) (fun e=>Zf od D hm z _ _ ht.2 hk.2 hQ _ _ (h2 e))
 | .block id s,Q,Q',ht,hk,hQ,a,w,h=>wp_block (Zf od D hm s _ _ ht hk (Qbi hQ) _ _ h)
 | .loop s,Q,Q',ht,hk,hQ,a,w,h=>by
  obtain⟨I,⟨n,h0⟩,hr⟩:=h
  refine Xg (fun n a' w=>∃ a,a'=ad D a∧I n a w) n ⟨a,rfl,h0⟩ ?_
  rintro n _ w ⟨a,rfl,hi⟩
  refine Zf od D hm s _ _ ht hk (fun e a w hq=>?_) _ _ (hr n a w hi)
  cases e<;>first|exact hQ _ _ _ hq|(obtain⟨m,hm',hi'⟩:=hq;exact⟨m,hm',_,rfl,hi'⟩)
 | .exit id,Q,Q',_,_,hQ,a,w,h=>wp_exit (hQ _ _ _ h)
 | .skip,Q,Q',_,_,hQ,a,w,h=>wp_skip (hQ _ _ _ h)
 | .ret,Q,Q',_,_,hQ,a,w,h=>wp_ret (hQ _ _ _ h)

section
variable {c:Cx} {Q:Exit→Act→World→Prop} {F:SFrame} {H:SHeap} {g:Operand} {p1 p2:Tmp} {assign body tail:Code} {gf:Nat} {lb:Array Value} {u v:Nat→Value} {N bx:Nat} {box:Obj} {ks:List Nat} {pr:World→Prop} {fn:Func} {R:Ending→World→Prop}

theorem Qg2 {wb:World} {od:List Od} (hm:c.P.follows .mixedOrders=true) {Iv Ir:List Nat→SHeap→Prop} (hbx:∀ k H',Iv k H'→(bx,box)∈H') (hbr:∀ k H',Ir k H'→(bx,box)∈H') (hks:∀ q∈ks,Stays wb q Iv Ir) {FA:Nat→SFrame} {ob:Option Obj} {B n0 l m:Nat} {pre:List {i:Nat // i<N}} {i:{i:Nat // i<N}} {a':Act} {W1:World} (hokb:okB c.P od body=true) (hl:∃ r,W1.heap[l]?=some (.loop r)) (hI:RInv wb c n0 Iv pre W1) (hA:AsgX c.n n0 FA ob a' W1) (hn0:wb.heap.size≤n0) (hn1:c.w0.heap.size≤n0)
  (hbody:∀ b H' X hM',Iv (pre.map (·.1)) H'→(X=exH ob b++H'∨(X=H'∧n0≤b∧∃ o,ob=some o∧(b,o)∈H'))→l∉keys X→Kp [] wb W1→(∀ p∈X,wb.heap.size≤p.1)→JC ⟨c.P,c.n,W1,keys X,hM'⟩ (bodyEndS (Iv (pre.map (·.1)++[i.1])) (Ir (pre.map (·.1)++[i.1])) ⟨c.P,c.n,W1,keys X,hM'⟩) (toB l m od body) (FA b) X) :
  body.wpIn (Fence.wide.inRound l) m c.P (ownPostG B (KB ks) (RInv wb c n0 Iv) (fun cd xs W=>cd=.ret∧RInv wb c n0 Ir xs W) (pre++[i]) W1) a' W1:=by
 obtain⟨hsz,H0,hi,hR0⟩:=hI
 obtain⟨b,hA,hx⟩:=hA
 obtain⟨X,hX,hR,hsub⟩:∃ X,(X=exH ob b++H0∨(X=H0∧n0≤b∧∃ o,ob=some o∧(b,o)∈H0))∧RSt wb c X W1∧∀ p∈H0,p∈X:=by
  cases ob with
  | none=>exact⟨H0,.inl rfl,hR0,fun p hp=>hp⟩
  | some o =>
   by_cases hb:b∈keys H0
   ·obtain⟨p,hp,rfl⟩:=List.mem_map.1 hb
    have h1:=hR0.hs.blk p hp
    rw[hx.1]at h1
    cases h1
    exact⟨H0,.inr ⟨rfl,hx.2.1,_,rfl,hp⟩,hR0,fun p hp=>hp⟩
   ·refine⟨exH (some o) b++H0,.inl rfl,?_,fun p hp=>List.mem_append_right _ hp⟩
    obtain⟨hb1,hn,hc⟩:=hx
    refine⟨hR0.hs.cons hb1 hb,fun p hp=>?_,hR0.kp,hR0.kb,fun p hp=>?_,fun p hp=>?_⟩
    all_goals
     rcases List.mem_cons.1 hp with rfl|hp
    ·exact .inl (Nat.le_trans hn1 hn)
    ·exact hR0.wr p hp
    ·exact Nat.le_trans hn0 hn
    ·exact hR0.ge p hp
    ·exact hc
    ·exact hR0.cells p hp
 obtain⟨r,hr⟩:=hl
 have hln:l∉keys X:=fun hm'=>by
  obtain⟨p,hp,rfl⟩:=List.mem_map.1 hm'
  have h1:=hR.hs.blk p hp
  rw[hr]at h1
  have h2:=hR.cells p hp
  rw[← Option.some.inj h1]at h2;cases h2
 have hM':=Z1 hR.hs
 refine wpIn_mono (QV (c:=⟨c.P,c.n,W1,keys X,hM'⟩) l m od hm body _ _ _ hokb ((hbody b H0 X hM' hi hX hln hR.kb hR.ge).h _ _ ⟨hA,Kp.refl _ _,hR.hs,fun p hp=>.inr (List.mem_map.2 ⟨p,hp,rfl⟩)⟩)) (fun e a w hq=>?_)
 cases e with
 | normal =>
  obtain⟨F2,H2,hJ,hc2,st2⟩:=hq
  obtain⟨h1,h2,h3⟩:=Xb (c2:=⟨c.P,c.n,W1,keys X,hM'⟩) B bx box hR rfl st2 hc2 (hsub _ (hbx _ _ hi)) (hbx _ _ hJ)
  exact⟨h1,fun q hq=>(by
   rcases hks q hq with h|⟨o,ho,_⟩
   ·exact(h3.kb.block q h spq).trans (hR.kb.block q h spq).symm
   ·exact(h3.hs.blk _ (ho _ _ hJ)).trans (hR0.hs.blk _ (ho _ _ hi)).symm),Nat.le_trans hsz st2.kp.size,H2,by rw[List.map_append];exact hJ,h3⟩
 | ret =>
  obtain⟨F2,H2,hJ,hc2,st2⟩:=hq
  obtain⟨h1,h2,h3⟩:=Xb (c2:=⟨c.P,c.n,W1,keys X,hM'⟩) B bx box hR rfl st2 hc2 (hsub _ (hbx _ _ hi)) (hbr _ _ hJ)
  exact⟨h1,rfl,Nat.le_trans hsz st2.kp.size,H2,by rw[List.map_append];exact hJ,h3⟩
 | _=>exact hq.elim

theorem Q64 {od:List Od} (wb:World) (hwb:c.w0=wb) (hm:c.P.follows .mixedOrders=true) (hM:c.M=[]) (hg:ev F g=some (.func (.func gf) #[] lb)) (eg:∀ args w,(callFunc gf args).run c.P w=.ok (.enter gf args) w)
  (it:IterK c.P gf lb u v N ks pr) (Iv Ir:List Nat→SHeap→Prop) (hbx:∀ k H',Iv k H'→(bx,box)∈H') (hbr:∀ k H',Ir k H'→(bx,box)∈H') (hks:∀ q∈ks,Stays wb q Iv Ir) (hcl:∀ k H',Iv k H'→Cells H') (H0:SHeap) (h0:Iv [] H0) (hH0:HSub H0 H) (hpr:∀ W,Kp [] wb W→Hsat H0 W→pr W) (FA:Nat→Nat→SFrame) (ob:Nat→Option Obj)
  (hp1:Nat.blt p1 c.n=true) (hp2:Nat.blt p2 c.n=true) (hoka:okB c.P od assign=true) (hokb:okB c.P od body=true) (htl:tailOK2 tail=true) (hoks:okS c.P od tail=true) (hQ:∀ a w,tail.wp c.P (bodyPostM Fence.wide 5 c.P fn R) a w→Q .normal a w) (hQr:∀ a w,bodyPostM Fence.wide 5 c.P fn R .ret a w→Q .ret a w)
  (hassign:∀ l i W hW,JC ⟨c.P,c.n,W,[],hW⟩ (asgEnd c.n (FA i) (ob i) ⟨c.P,c.n,W,[],hW⟩) (toB l 3 od assign) ((p2,v i)::(p1,u i)::F) [])
  (hbody:∀ l i pre b H' X W1 hM',i<N→pre.length<N→Iv pre H'→(X=exH (ob i) b++H'∨(X=H'∧b∉keys H0∧∃ o,ob i=some o∧(b,o)∈H'))→(∃ r,W1.heap[l]?=some (.loop r))→l∉keys X→Kp [] wb W1→(∀ p∈X,wb.heap.size≤p.1)→JC ⟨c.P,c.n,W1,keys X,hM'⟩ (bodyEndS (Iv (pre++[i])) (Ir (pre++[i])) ⟨c.P,c.n,W1,keys X,hM'⟩) (toB l 3 od body) (FA i b) X)
  (hdone:∀ D H',Iv (List.range N) H'→wb.heap.size≤D→JC c (fun e a w=>bodyPostM Fence.wide 5 c.P fn R e (ad [{ target:=.collected D,args:=#[] }] a) w) (toS od tail) F ((D,.deferred (some []))::H'))
  (hstop:∀ D k H',Ir (List.range k) H'→wb.heap.size≤D→JX c (fun e a w=>bodyPostM Fence.wide 5 c.P fn R e (ad [{ target:=.collected D,args:=#[] }] a) w) .ret F ((D,.deferred (some []))::H')) :
  JC c Q (.raw (.rangeFunc g #[p1,p2] assign body)) F H:=by
 subst hwb
 refine⟨fun a W st=>?_⟩
 obtain⟨tm,df⟩:=a
 obtain rfl:df=[]:=st.fr.defers
 have st0:=st.heap hH0
 have hkp:Kp [] c.w0 W:=by have:=st.kp;rwa [hM]at this
 have hI0:RInv (N:=N) c.w0 c W.heap.size Iv [] W:=⟨Nat.le_refl _,H0,h0,st0.hs,st0.wr,st.kp,hkp,fun p hp=>(by
  rcases st0.wr p hp with h|h
  ·exact h
  ·rw[hM]at h;cases h),hcl _ _ h0⟩
 have hWs:c.w0.heap.size≤W.heap.size:=st.kp.size
 have hbxW:=st0.hs.blk _ (hbx _ _ h0)
 have hbxlt:bx<W.heap.size:=(Array.getElem?_eq_some_iff.1 hbxW).1
 have hkl:=Z1 st0.hs
 have hkq:∀ q∈ks,q<W.heap.size:=fun q hq=>by
  rcases hks q hq with h|⟨o,ho,_⟩
  ·exact Nat.lt_of_lt_of_le h hkp.size
  ·exact hkl q (List.mem_map.2 ⟨_,ho _ _ h0,rfl⟩)
 refine wpIn_wide.1 (wpIn_rangeFunc_ownH (F:=Fence.wide) (n:=5) rfl oq (gf:=gf) (lb:=lb) (st.fr.ev hg) trivial eg
  (it 4 W oq (hpr W hkp st0.hs)) KB.trans (fun W' l o o' hl ho _ _ q hq=>?_) (Below.refl _ _) (fun _=>rfl)
  (RInv c.w0 c W.heap.size Iv) (fun cd xs W'=>cd=.ret∧RInv c.w0 c W.heap.size Ir xs W') (W4 hWs hWs) (fun cd xs A B row hs hg hr=>⟨hs.1,W4 hWs hWs xs A B row hs.2 hg hr⟩) hI0 (fun i a W'=>AsgX c.n W.heap.size (FA i.1) (ob i.1) a W') (fun _ _=>Q1r) ?assign ?body ?done ?stop)
 ·have hql:=hkq q hq
  exact World.putObj_heap_other (fun e=>by omega)
 case assign =>
  intro l pre i W1 K hI hK
  have hW1:W.heap.size≤W1.heap.size:=hI.1
  rw[zip2]
  refine wpIn_mono (QV (c:=⟨c.P,c.n,W1,[],by simp⟩) l 3 od hm assign _ _ _ hoka ((hassign l i.1 W1 spq).h _ _ ⟨?_,Kp.refl _ _,⟨by simp,by simp⟩,fun p hp=>by cases hp⟩)) (fun e a w hq=>?_)
  ·exact(st.fr.set' (u i.1) hp1).set' (v i.1) hp2
  ·cases e with
   | normal =>
    obtain⟨h1,h2,h3⟩:=Qb2 (B:=W.heap.size) hI hbx hq.1
    exact hK _ _ h1 (fun q hq'=>hq.1.block q (Nat.lt_of_lt_of_le (hkq q hq') hW1) spq) h3 (hq.2.le hW1)
   | _=>exact hq.elim
 case body =>
  intro l pre i a' W1 hl hr hI hA hlen
  exact Qg2 hm hbx hbr hks hokb hr hI hA (Nat.le_trans hkp.size (Nat.le_refl _)) hWs (fun b H' X hM' hi hX hln hkb hge=>hbody l i.1 _ b H' X W1 hM' i.2 (by rw[List.length_map];exact hlen) hi (hX.imp id fun h=>⟨h.1,fun hm=>by have:=hkl _ hm;omega,h.2.2⟩) hr hln hkb hge)
 case done =>
  intro D ys W1 hD hys hI hDd
  obtain⟨_,H',hi,hR⟩:=hI
  rw[hys]at hi
  have hD2:c.w0.heap.size≤D:=Nat.le_trans hWs hD
  have hDn:D∉H'.map (·.1):=fun hm=>by
   obtain⟨p,hp,rfl⟩:=List.mem_map.1 hm
   have h1:=hR.hs.blk p hp
   rw[hDd]at h1
   have h2:=hR.cells p hp
   rw[← Option.some.inj h1]at h2;cases h2
  refine hQ _ _ (Zf (c:=c) od [{ target:=.collected D,args:=#[] }] hm tail (fun e a w=>bodyPostM Fence.wide 5 c.P fn R e (ad [{ target:=.collected D,args:=#[] }] a) w) _ htl hoks (fun e a w h=>h) { tmps:=tm,defers:=[] } W1 ((hdone D H' hi hD2).h _ _ ⟨st.fr,hR.kp,hR.hs.cons hDd hDn,fun p hp=>?_⟩))
  rcases List.mem_cons.1 hp with rfl|hp
  ·exact .inl hD2
  ·exact hR.wr p hp
 case stop =>
  intro D cd pre W1 hD hpre h hDd
  obtain⟨rfl,hI⟩:=h
  obtain⟨_,H',hi,hR⟩:=hI
  rw[hpre]at hi
  have hD2:c.w0.heap.size≤D:=Nat.le_trans hWs hD
  have hDn:D∉H'.map (·.1):=fun hm=>by
   obtain⟨p,hp,rfl⟩:=List.mem_map.1 hm
   have h1:=hR.hs.blk p hp
   rw[hDd]at h1
   have h2:=hR.cells p hp
   rw[← Option.some.inj h1]at h2;cases h2
  refine wpIn_ret (hQr _ _ ((hstop D _ H' hi hD2).h { tmps:=tm,defers:=[] } W1 ⟨st.fr,hR.kp,hR.hs.cons hDd hDn,fun p hp=>?_⟩))
  rcases List.mem_cons.1 hp with rfl|hp
  ·exact .inl hD2
  ·exact hR.wr p hp

end


attribute [local go_sem] Oper.semAt_some

def diaR (m:ZM) (i:Nat):Int:=if i<m.c then m.at i i else 0
theorem Qbt {w w':World} {A:Option Addr} {n cap:Nat} {xs:List Int} {be:Nat} (h:WZ w (.slice A n cap) n xs) (hA:0<n→∀ x,A=some x→x.block=be) (hb:w'.heap[be]?=w.heap[be]?):WZ w' (.slice A n cap) n xs:=by
 obtain⟨h1,A',cap',he,h2,h3⟩:=h
 cases he
 refine⟨h1,A,cap,rfl,h2,fun h0=>⟨(h3 h0).1,fun j u hu=>?_⟩⟩
 have h4:=(h3 h0).2 j u hu
 obtain⟨⟨b0,o,rfl⟩,_⟩:=h3 h0
 have hbe:b0=be:=hA h0 _ rfl
 subst hbe
 exact(World.cell?_of_block (a:=⟨b0,o+j,none⟩) (by exact hb)).trans h4
theorem Qdw {r q:Nat} {ys:List {i:Nat // i<r}} (h:ys.map (·.1)=List.range q) {x:{i:Nat // i<r}} (hq:x.1=q):(ys++[x]).map (·.1)=List.range (ys++[x]).length:=by
 have hl:ys.length=q:=by have:=congrArg List.length h;rwa [List.length_map,List.length_range]at this
 rw[List.map_append,h,List.length_append,hl]
 show List.range q++[x.1]=List.range (q+1)
 rw[List.range_succ,hq]
theorem Qhx {W W':World} (h:Kp [] W W'):W.grownBy W' none:=⟨h.os,h.tape,h.output,h.size,fun k hk _=>h.block k hk spq⟩

set_option maxRecDepth 100000 in
theorem Qeb (n:Nat) (hn:1≤n) (l bx be cap:Nat) (A:Option Addr) (m:ZM) (hm:RtZ m) (J Jx:List {i:Nat // i<m.r}→World→Prop)
  (hY : ∀ pre (x : {i : Nat // i < m.r}) W, J pre W → pre.length < m.r → YieldAt Fence.wide (n - 1) Tryz.prog l #[nv x.1, Wv (diaR m x.1)] W fun e W' =>
   (e=.returned (.bool true)∧J (pre++[x]) W'∧KB [bx,be] W W')∨(e=.returned (.bool false)∧Jx (pre++[x]) W'))
  (W:World) (hJ:∀ pre W1 W2,J pre W1→Kp [] W1 W2→J pre W2) (hB:W.heap[bx]?=some (.cells #[nv m.r,nv m.c,.slice A (m.r*m.c) cap] 26)) (hE:WZ W (.slice A (m.r*m.c) cap) (m.r*m.c) m.e) (hA:0<m.r*m.c→∀ x,A=some x→x.block=be) (hbe:be<W.heap.size) (h0:J [] W) :
  CallsIn Fence.wide n Tryz.prog 114 #[.func (.yield l) #[] #[],.pointer (some ⟨bx,0,none⟩)] W fun e W'=>(∃ v,e=.returned v) ∧
   ((∃ ys:List {i:Nat // i<m.r},ys.map (·.1)=List.range m.r∧J ys W')∨(∃ pre:List {i:Nat // i<m.r},pre.map (·.1)=List.range pre.length∧Jx pre W')):=by
 have hb0:W.cell? ⟨bx,0,none⟩=some (nv m.r):=QF hB rfl
 have hb1:W.cell? ⟨bx,1,none⟩=some (nv m.c):=QF hB rfl
 have hb2:W.cell? ⟨bx,2,none⟩=some (.slice A (m.r*m.c) cap):=QF hB rfl
 have hr:=hm.r
 have hc:=hm.c
 have hlen:=hm.len
 refine callsIn_of_wp Tryz.func114 rfl trivial ?_ rfl
 simp only[Tryz.ntmps114,List.size_toArray,List.length_cons,List.length_nil,Nat.reduceAdd,Nat.reduceSub,Array.replicate_succ,Array.replicate_zero,List.push_toArray,List.append_toArray,List.nil_append,List.cons_append]
 gi_wp2
 gi_loopw [7] (fun i wr=>∃ q:Nat,q≤m.r∧i=.int .i64 (q:Int)∧(∃ ys:List {i:Nat // i<m.r},ys.map (·.1)=List.range q∧J ys wr)∧KB [bx,be] W wr)
  (fun i _=>(m.r-intOf i).toNat)
 case atStart=>exact⟨0,Nat.zero_le _,by simp,⟨[],rfl,h0⟩,KB.refl _ _⟩
 case round =>
  obtain⟨q,hq,rfl,⟨ys,hys,hJs⟩,hnx⟩:=hrel
  have hw0:wr.cell? ⟨bx,0,none⟩=some (nv m.r):=(hnx.cell (p:=⟨bx,0,none⟩) spq).trans hb0
  have hw1:wr.cell? ⟨bx,1,none⟩=some (nv m.c):=(hnx.cell (p:=⟨bx,1,none⟩) spq).trans hb1
  have hw2:wr.cell? ⟨bx,2,none⟩=some (.slice A (m.r*m.c) cap):=(hnx.cell (p:=⟨bx,2,none⟩) spq).trans hb2
  by_cases hlt:q<m.r
  ·have hlx:bx<wr.heap.size:=Yz hw0
   have hlk:∀ k∈[bx,be],k<wr.heap.size:=fun k hk=>by
    rcases List.mem_cons.1 hk with rfl|hk
    ·exact hlx
    ·cases List.mem_singleton.1 hk
     have h1:=hnx be spq
     rw[Array.getElem?_eq_getElem hbe]at h1
     exact(Array.getElem?_eq_some_iff.1 h1).1
   obtain⟨W2,hW2⟩:∃ W2,W2=wr.alloc (.cells #[.bool false,.string ⟨#[]⟩] 35):=⟨_,rfl⟩
   have hk2:Kp [] wr W2:=by
    subst hW2
    exact⟨rfl,rfl,rfl,by simp,fun k hk _=>Below.heap_alloc _ _ _ hk⟩
   have hx0:W2.cell? ⟨bx,0,none⟩=some (nv m.r):=(World.cell?_of_block (a:=⟨bx,0,none⟩) (hk2.block bx hlx spq)).trans hw0
   have hx1:W2.cell? ⟨bx,1,none⟩=some (nv m.c):=(World.cell?_of_block (a:=⟨bx,1,none⟩) (hk2.block bx hlx spq)).trans hw1
   have hx2:W2.cell? ⟨bx,2,none⟩=some (.slice A (m.r*m.c) cap):=(World.cell?_of_block (a:=⟨bx,2,none⟩) (hk2.block bx hlx spq)).trans hw2
   have hwE:WZ wr (.slice A (m.r*m.c) cap) (m.r*m.c) m.e:=Qbt hE hA (hnx be spq)
   have hv2:IsM W2 (.agg #[nv m.r,nv m.c,.slice A (m.r*m.c) cap]) m:=⟨_,rfl,by rw[hlen];exact hwE.mono hk2⟩
   have hAt:CallsIn Fence.wide (n-1) Tryz.prog 64 #[.agg #[nv m.r,nv m.c,.slice A (m.r*m.c) cap],nv q,nv q] W2 (fun e w'=>e=.returned (Wv (atZ m q q))∧Kp [] W2 w'):=callsIn_wide.2 ((c_At W2 _ m (q:Int) (q:Int) hm hv2).mono fun e w' he=>by
    cases e<;>first|exact⟨by rw[he.2],he.1⟩|exact he.elim)
   have hkb2:KB [bx,be] wr W2:=fun k hk=>hk2.block k (hlk k hk) spq
   have hnew:W2.heap[wr.heap.size]?=some (.cells #[.bool false,.string ⟨#[]⟩] 35):=by rw[hW2];exact World.alloc_heap_new _ _
   have hql:ys.length<m.r:=by have:=congrArg List.length hys;rw[List.length_map,List.length_range]at this;omega
   by_cases hqc:q<m.c
   ·subst hW2
    gi_wp2
    refine⟨trivial,CallsIn.mono hAt ?_⟩
    rintro e w1 ⟨rfl,hk3⟩
    have hnew1:=(hk3.block _ (Q2u hnew) spq).trans hnew
    have hdi:Wv (atZ m q q)=.agg #[.bool (wz (diaR m q)).1,sv (wz (diaR m q)).2]:=by
     unfold diaR
     rw[if_pos hqc,Qg7 hlt hqc]
     rfl
    obtain⟨b0,s0,hbs⟩:∃ b0 s0,Wv (diaR m q)=.agg #[.bool b0,.string s0]:=⟨_,_,rfl⟩
    have hdi2:Wv (atZ m q q)=.agg #[.bool b0,.string s0]:=hdi.trans hbs
    have hdv:=hbs
    have hc0:w1.cell? ⟨wr.heap.size,0,none⟩=some (.bool false):=QF hnew1 rfl
    have hf0:w1.frozen? ⟨wr.heap.size,0,none⟩=false:=by simp[World.frozen?,hnew1]
    have hW3:=heap_setCell_same w1 wr.heap.size 0 _ _ (Value.bool b0) hnew1
    have hc1:(w1.setCell ⟨wr.heap.size,0,none⟩ (Value.bool b0)).cell? ⟨wr.heap.size,1,none⟩=some (.string ⟨#[]⟩):=QF hW3 rfl
    have hf1:(w1.setCell ⟨wr.heap.size,0,none⟩ (Value.bool b0)).frozen? ⟨wr.heap.size,1,none⟩=false:=by simp[World.frozen?,hW3]
    have hW4:=heap_setCell_same (w1.setCell ⟨wr.heap.size,0,none⟩ (Value.bool b0)) wr.heap.size 1 _ _ (Value.string s0) hW3
    have hd0:((w1.setCell ⟨wr.heap.size,0,none⟩ (Value.bool b0)).setCell ⟨wr.heap.size,1,none⟩ (Value.string s0)).cell? ⟨wr.heap.size,0,none⟩=some (Value.bool b0):=QF hW4 rfl
    have hd1:((w1.setCell ⟨wr.heap.size,0,none⟩ (Value.bool b0)).setCell ⟨wr.heap.size,1,none⟩ (Value.string s0)).cell? ⟨wr.heap.size,1,none⟩=some (Value.string s0):=QF hW4 rfl
    have hk4:Kp [] wr ((w1.setCell ⟨wr.heap.size,0,none⟩ (Value.bool b0)).setCell ⟨wr.heap.size,1,none⟩ (Value.string s0)):=by
     have h5:=hk2.trans hk3
     refine⟨h5.os,h5.tape,h5.output,by simpa [World.setCell] using h5.size,fun k hk hm=>?_⟩
     rw[Below.heap_setCell _ _ _ _ (by simp;omega),Below.heap_setCell _ _ _ _ (by simp;omega)]
     exact h5.block k hk hm
    obtain⟨fn,tmps,assign,body,hy,hR⟩:=hY ys ⟨q,hlt⟩ _ (hJ _ _ _ hJs hk4) hql
    dsimp only at hy
    rw[hdv]at hy
    dsimp only
    rw[hdi2]
    clear hdv hdi hdi2 hbs
    gi_wp2
    refine hR.mono ?_
    rintro e W3 (⟨rfl,hJ3,hk5⟩|⟨rfl,hJx3⟩)
    ·gi_wp2
     go_roundw
     case rel=>exact⟨q+1,by omega,by simp,⟨_,by rw[List.map_append,hys,List.range_succ];rfl,hJ3⟩,hnx.trans (KB.trans (fun k hk=>hk4.block k (hlk k hk) spq) hk5)⟩
     case measure=>first|(simp[intOf];done)|(simp[intOf];omega)
    ·gi_wp2
     refine bodyPost_ret (results_none rfl _ _ _) rfl ?_
     exact⟨⟨_,rfl⟩,.inr ⟨_,Qdw hys rfl,hJx3⟩⟩
   ·obtain⟨fn,tmps,assign,body,hy,hR⟩:=hY ys ⟨q,hlt⟩ W2 (hJ _ _ _ hJs hk2) hql
    have hz:Wv (diaR m q)=.agg #[.bool false,.string ⟨#[]⟩]:=by
     unfold diaR
     rw[if_neg hqc]
     exact Wz0
    dsimp only at hy
    rw[hz]at hy
    subst hW2
    gi_wp2
    refine hR.mono ?_
    rintro e W3 (⟨rfl,hJ3,hk3⟩|⟨rfl,hJx3⟩)
    ·gi_wp2
     go_roundw
     case rel=>exact⟨q+1,by omega,by simp,⟨_,by rw[List.map_append,hys,List.range_succ];rfl,hJ3⟩,hnx.trans (hkb2.trans hk3)⟩
     case measure=>first|(simp[intOf];done)|(simp[intOf];omega)
    ·gi_wp2
     refine bodyPost_ret (results_none rfl _ _ _) rfl ?_
     exact⟨⟨_,rfl⟩,.inr ⟨_,Qdw hys rfl,hJx3⟩⟩
  ·obtain rfl:q=m.r:=by omega
   gi_wp2
   go_end0
   exact⟨⟨_,rfl⟩,.inl ⟨ys,hys,hJs⟩⟩

theorem Q0e {cap bx be:Nat} {A:Option Addr} {m:ZM} (hm:RtZ m) (hA:0<m.r*m.c→∀ x,A=some x→x.block=be) :
  IterK Tryz.prog 114 #[.pointer (some ⟨bx,0,none⟩)] (fun i=>nv i) (fun i=>Wv (diaR m i)) m.r [bx,be] (fun W=>W.heap[bx]?=some (.cells #[nv m.r,nv m.c,.slice A (m.r*m.c) cap] 26)∧WZ W (.slice A (m.r*m.c) cap) (m.r*m.c) m.e∧be<W.heap.size):=fun n w hn hw l J Jx W hW hJ _ hY h0 =>
 Qeb n hn l bx be cap A m hm J Jx hY W (fun pre W1 W2 h1 h2=>hJ pre W1 W2 none h1 (Qhx h2) (fun r e=>by cases e)) ((hW.block bx (Q2u hw.1)).trans hw.1) (Qbt hw.2.1 hA (hW.block be hw.2.2)) hA (Nat.lt_of_lt_of_le hw.2.2 hW.size) h0

end Go.Proofs.YtljmapfihjkafaaGreatDoor

namespace Go.Proofs.YtljmapfihjkafaaGreatDoor
open Go Go.RowKit
set_option linter.unusedSimpArgs false
set_option linter.unusedVariables false
set_option linter.unusedSectionVars false

theorem Q8q (w:World) (r c k cap:Nat) (A:Option Addr):Calls Tryz.prog 59 #[.agg #[nv r,nv c,.slice A k cap]] w (Ret fun v w'=>Kp [] w w'∧∃ bx,v=.func (.func 114) #[] #[.pointer (some ⟨bx,0,none⟩)]∧New [(bx,.cells #[nv r,nv c,.slice A k cap] 26 (0,0))] w w'):=by
 refine Q9 [] [] spq [] Tryz.func59 rfl mixed (by kernel_rfl) Tryz.ntmps59 Tryz.results59 rfl ⟨by simp,by simp⟩ spq ?_
 simp only[toS,textOps,toSOp,kindAt,kindOf,odAt,sopsAt,ordOf,zipF]
 repeat' first|apply jS|apply jO|apply jN|apply jT|refine Q0 ?_|refine Qt fun _=>?_|refine Yy (h:=?_)|apply jR
 exact Qh rfl (fun a w' st=>⟨st.kp,_,rfl,st.newOf rfl HSub.hd⟩)

section
variable {c:Cx} {Q:Exit→Act→World→Prop} {F:SFrame} {H Hs:SHeap} {r:List SOp} {g:Option (Option Tmp × Bool)} {ns:Bool} {ty t:TypeId} {x y:Operand}
theorem WB {b:Nat} (k:Nat) {cs:Array Value} {T:TypeId} {v:Value} [T1 c.P t] (hg:guardF F g=some true) (hx:ev F x=some (.pointer (some ⟨b,0,none⟩))) (hy:ev F y=some v)
  (hb:H[k]?=some (b,.cells cs T (0,0))) (hc:v.cells.toList=[v]) (hv:v.oneCell'=true) (hl:0<cs.size) (hHs:HSub Hs (H.set k (b,.cells (cs.setIfInBounds 0 v) T (0,0)))) (h:JO c Q (.draw Hs true) r F (H.set k (b,.cells (cs.setIfInBounds 0 v) T (0,0)))) :
  JO c Q (.draw Hs true) (⟨none,.store t x y,ty,g,.seq,ns⟩::r) F H:=by
 refine⟨⟨rfl,.inr ⟨hg,fun a w st _=>?_⟩⟩⟩
 have hm':(b,Obj.cells cs T (0,0))∈H:=List.mem_of_getElem? hb
 obtain⟨w',h1,h2,h3,h4,h5,h6,h7⟩:=Wg (P:=c.P) (t:=t) (n:=1) T1.size (o:=0) (v:=v) (w:=w) (by rw[show v.cells.size=v.cells.toList.length by simp,hc];rfl) (by rw[hc];intro u hu;cases List.mem_singleton.1 hu;exact hv) (st.hs.blk _ hm') oq
 rw[hc]at h2
 obtain⟨st',hstep⟩:=setBlk st hb h2 h3 h4 h5 h6 h7
 unfold Oper.wp SOp.oper
 simp only[execOp,st.fr.ev hx,st.fr.ev hy,Sem.run_bind,h1,Result.andThen_ok,Sem.run_pure]
 exact⟨hstep,F,_,.draw Hs true,st',fun j hj=>.inl (Q5c hb j hj),⟨rfl,fun _=>⟨rfl,hHs.hsat st'.hs⟩,fun _=>rfl,.inl rfl⟩,h.h⟩
end

def eqC (m n:Nat) (E1 E2 E3 E4 E5 E6:Value):Array Value:=#[nv m,nv m,E1,nv m,nv m,E2,nv m,nv n,E3,nv n,nv n,E4,nv n,nv n,E5,E6]
def wrongF (D:ZM) (cs:List Int):Option Nat:=(List.range D.r).find? fun i=>decide (¬diaR D i∣cs.getD i 0)
def wrongV (D:ZM) (cs:List Int):Value:=match wrongF D cs with
 | none=>.tuple #[iv 0,Wv 0,.bool false]
 | some i=>.tuple #[nv i,Wv (diaR D i),.bool true]

theorem Qbc {k i:Nat} {l:List Nat} (h:List.range k=l++[i]):l=List.range i:=by
 cases k with
 | zero=>exact absurd (congrArg List.length h) spq
 | succ k =>
  rw[List.range_succ]at h
  obtain⟨h1,h2⟩:=List.append_inj' h rfl
  cases h2
  exact h1.symm
theorem Q86 {n i:Nat} (h:i<n):∃ r,List.range n=List.range i++i::r:=by
 obtain⟨d,rfl⟩:∃ d,n=i+1+d:=⟨n-i-1,by omega⟩
 refine⟨(List.range d).map (i+1+·),?_⟩
 rw[List.range_add,List.range_succ,List.append_assoc]
 rfl
theorem Qb5 {D:ZM} {cs:List Int} {k i:Nat} {l:List Nat} (hk:List.range k=l++[i]) (hi:i<D.r) (hpd:∀ j∈l,diaR D j∣cs.getD j 0) (hnd:¬diaR D i∣cs.getD i 0):wrongF D cs=some i:=by
 obtain⟨r,hr⟩:=Q86 hi
 obtain rfl:=Qbc hk
 unfold wrongF
 rw[hr,List.find?_append]
 have h1:(List.range i).find? (fun i=>decide (¬diaR D i∣cs.getD i 0))=none:=by
  rw[List.find?_eq_none]
  intro j hj
  simpa using hpd j hj
 rw[h1,List.find?_cons]
 simp only[hnd,not_false_eq_true,decide_true]
 rfl

theorem Q5s (K:Nat) (w0:World) (E1 E2 E3 E4 E5 E6:Value) (D:ZM) (m n:Nat) (cs:List Int) (hm:RtZ D) (hmr:D.r=m) (hnc:D.c=n) (hv:WZ w0 E3 (m*n) D.e) (hE:WZ w0 E6 m cs) (hK:K≤3500000000000) (hx:BdZ K D) (hy:BdL K cs) :
  Calls Tryz.prog 72 #[.agg (eqC m n E1 E2 E3 E4 E5 E6)] w0 (Ret fun v w'=>Kp [] w0 w'∧v=wrongV D cs):=by
 subst hmr hnc
 obtain⟨A3,c3,rfl⟩:=hv.form
 obtain⟨A6,c6,rfl⟩:=hE.form
 have hr:=hm.r
 unfold eqC
 refine YA 5 [⟨5,2,[],[]⟩] Tryz.func72 rfl mixed (by kernel_rfl) Tryz.ntmps72 spq ?_
 simp only[toZ,hasRF,Bool.or_false,Bool.false_or,Bool.or_self,Bool.true_or,cond_true,cond_false,toS,textOps,toSOp,kindAt,kindOf,odAt,sopsAt,ordOf,zipF]

 repeat' first|apply jS|apply jO|apply jN|refine Q3 ?_|refine Qc fun _=>?_|refine Qt fun _=>?_|apply jT
 rename_i b1 b2 b3 b4
 refine XD 3 rfl eqq rfl rfl rfl rfl rfl rfl ?_
 skip
 refine Qd (A:=[]) rfl trivial rfl rfl rfl (fun w hk _=>Q8q w D.r D.c (D.r*D.c) c3 A3) fun w v w' _ _ _ hR=>?_
 obtain⟨bx,rfl,hNx⟩:=hR
 refine⟨_,hNx,?_⟩
 repeat' first|apply jN|apply jT|apply jB
 obtain⟨be,hbe,hA3⟩:∃ be,(be<w0.heap.size∨be=bx)∧(0<D.r*D.c→∀ x,A3=some x→x.block=be):=by
  by_cases h0:0<D.r*D.c
  ·have hb:=Q93 hv h0
   obtain⟨_,A',c',he,_,h3⟩:=hv
   cases he
   obtain⟨⟨b0,o,rfl⟩,_⟩:=h3 h0
   exact⟨b0,.inl hb,fun _ x h=>by cases h;rfl⟩
  ·exact⟨bx,.inr rfl,fun h=>absurd h h0⟩
 refine Q11 (od:=[⟨5,2,[],[]⟩]) _ rfl mixed rfl rfl (enters_of Tryz.func114 (by kernel_rfl) rfl) (Q0e hm hA3)
  (fun pre H'=>H'=[(bx,.cells #[nv D.r,nv D.c,.slice A3 (D.r*D.c) c3] 26 (0,0)),(b4,.cells #[.bool false] 4 (0,0)),(b3,.cells #[.bool false,.string ⟨#[]⟩] 35 (0,0)),(b2,.cells #[iv 0] 3 (0,0)),(b1,.cells (eqC D.r D.c E1 E2 (.slice A3 (D.r*D.c) c3) E4 E5 (.slice A6 D.r c6)) 91 (0,0))]∧∀ j∈pre,diaR D j∣cs.getD j 0)
  (fun pre H'=>∃ l i,pre=l++[i]∧H'=[(bx,.cells #[nv D.r,nv D.c,.slice A3 (D.r*D.c) c3] 26 (0,0)),(b4,.cells #[.bool true] 4 (0,0)),(b3,.cells #[.bool (wz (diaR D i)).1,sv (wz (diaR D i)).2] 35 (0,0)),(b2,.cells #[nv i] 3 (0,0)),(b1,.cells (eqC D.r D.c E1 E2 (.slice A3 (D.r*D.c) c3) E4 E5 (.slice A6 D.r c6)) 91 (0,0))]∧i<D.r∧(∀ j∈l,diaR D j∣cs.getD j 0)∧¬diaR D i∣cs.getD i 0)
  (by rintro k _ ⟨rfl,_⟩;exact List.mem_cons_self) (by rintro k _ ⟨l,i,_,rfl,_⟩;exact List.mem_cons_self)
  (fun q hq => by
   rcases List.mem_cons.1 hq with rfl|hq
   ·exact .inr ⟨_,fun k H' h=>by rw[h.1];exact List.mem_cons_self,fun k H' h=>by obtain⟨l,i,_,rfl,_⟩:=h;exact List.mem_cons_self⟩
   ·cases List.mem_singleton.1 hq
    rcases hbe with h|rfl
    ·exact .inl h
    ·exact .inr ⟨_,fun k H' h=>by rw[h.1];exact List.mem_cons_self,fun k H' h=>by obtain⟨l,i,_,rfl,_⟩:=h;exact List.mem_cons_self⟩)
  (by rintro k _ ⟨rfl,_⟩;exact Cells.cons (Cells.cons (Cells.cons (Cells.cons (Cells.cons Cells.nil))))) _ ⟨rfl,fun j h=>by cases h⟩ Qr
  (fun W hk hs => ⟨hs.blk _ List.mem_cons_self, hv.mono hk, by
   rcases hbe with h|rfl
   ·exact Nat.lt_of_lt_of_le h hk.size
   ·exact Q2u (hs.blk _ List.mem_cons_self)⟩)
  (fun i b=>[(5,nv i),(6,.pointer (some ⟨b,0,none⟩)),(4,.pointer (some ⟨b4,0,none⟩)),(3,.pointer (some ⟨b3,0,none⟩)),(2,.pointer (some ⟨b2,0,none⟩)),(1,.pointer (some ⟨b1,0,none⟩))])
  (fun i=>some (.cells #[.bool (wz (diaR D i)).1,sv (wz (diaR D i)).2] 35 (0,0))) (fun i o _ k H' h p hp=>.inr (by rw[h.1]at hp;exact List.mem_map.2 ⟨p,hp,rfl⟩)) rfl rfl (by kernel_rfl) (by kernel_rfl) rfl (fun _ _ h=>h) (fun _ _ h=>h) ?_ ?_ ?_ ?_
 ·intro l i W hW
  simp only[toB,textOps,toSOp,kindAt,kindOf,odAt,sopsAt,ordOf,exH,List.nil_append,List.cons_append]
  repeat' first|apply jS|apply jO|apply jN|refine Q0 ?_|refine Q2 ?_|refine Qc fun _=>?_|refine Q2 ?_|apply jT
  exact W5 0 rfl rfl rfl cqq
 ·rintro l i pre b _ W1 hM' hi hpl ⟨rfl,hpd⟩ hl hln hkb hge
  simp only[toB,textOps,toSOp,kindAt,kindOf,odAt,sopsAt,ordOf,exH,List.nil_append,List.cons_append]
  have hoth:=Q4w (c2:=⟨Tryz.prog,24,W1,_,hM'⟩) hE hkb (Q2v hge) []
  have hdb:(diaR D i).natAbs<256 ^ K:=by
   unfold diaR
   split
   ·exact hx.at i i
   ·exact pos256 K
  unfold eqC
  repeat' first|apply jS|apply jD|refine Q1 ?_|refine Q3 ?_|refine Qb ?_|refine Q7 ?_|refine Ze (h:=?_)|refine W7 (h:=?_)|apply jB
  refine Q6 pqq rfl eqq rfl (fun w _ _=>Qor w _ _ (diaR D i) (cs.getD i 0) K (Qf hdb) (Qf (hy i)) oq) fun w v w' _ _ _ hR=>?_
  subst hR
  by_cases hdv:diaR D i∣cs.getD i 0
  ·rw[decide_eq_true hdv]
   repeat' first|apply jN|apply jT|refine QP (h:=?_)|apply jK|refine Q4 rfl ?_|apply jW
   exact Zl ⟨rfl,fun j hj=>by
    rcases List.mem_append.1 hj with h|h
    ·exact hpd j h
    ·cases List.mem_singleton.1 h;exact hdv⟩ (Cells.cons (Cells.cons (Cells.cons (Cells.cons (Cells.cons Cells.nil))))) (HSub.skip (HSub.refl _))
  ·rw[decide_eq_false hdv]
   repeat' first|apply jS|apply jN|apply jT|refine QP (h:=?_)|refine Q8 rfl ?_
   refine QX [(b,.cells #[.bool (wz (diaR D i)).1,sv (wz (diaR D i)).2] 35)] Qr ?_
   repeat' first|refine Q1 ?_|refine Q7 ?_|fail
   refine WB 4 rfl rfl rfl rfl rfl rfl dq HSub.hd ?_
   refine Zq 3 rfl rfl rfl rfl rfl rfl rfl HSub.hd ?_
   refine WB 2 rfl rfl rfl rfl rfl rfl dq HSub.hd ?_
   repeat' first|apply jN|apply jT|apply jR|refine QH ?_
   exact Q8y ⟨pre,i,rfl,rfl,hi,hpd,hdv⟩ (Cells.cons (Cells.cons (Cells.cons (Cells.cons (Cells.cons Cells.nil))))) (HSub.skip (HSub.refl _))
 ·rintro D' _ ⟨rfl,hpd⟩ hD
  simp only[toS,textOps,toSOp,kindAt,kindOf,odAt,sopsAt,ordOf]
  repeat' first|apply jS|apply jO|apply jN|apply jT|refine Q2 ?_|refine Zu (h:=?_)|refine Q2 ?_|refine Zg (k:=_) (h:=?_)|apply jR
  refine Xc 0 rfl hD rfl ?_
  have hnone:wrongV D cs=.tuple #[iv 0,Wv 0,.bool false]:=by
   have:wrongF D cs=none:=by
    unfold wrongF
    rw[List.find?_eq_none]
    intro j hj
    simpa using hpd j hj
   unfold wrongV
   rw[this]
  refine Yc [iv 0,.agg #[.bool false,.string ⟨#[]⟩],.bool false] (W6 3 rfl rfl rfl (Zn 2 rfl rfl rfl (W6 1 rfl rfl rfl JR.nil))) (fun a w' st=>⟨st.kp,?_⟩)
  rw[hnone,Wz0]
  rfl
 ·rintro D' k _ ⟨l,i,hk,rfl,hir,hpd,hnd⟩ hD
  refine Xc 0 rfl hD rfl ?_
  have hsome:wrongV D cs=.tuple #[nv i,Wv (diaR D i),.bool true]:=by
   have:wrongF D cs=some i:=Qb5 hk hir hpd hnd
   unfold wrongV
   rw[this]
  refine Yc [nv i,Wv (diaR D i),.bool true] (W6 3 rfl rfl rfl (Zn 2 rfl rfl rfl (W6 1 rfl rfl rfl JR.nil))) (fun a w' st=>⟨st.kp,?_⟩)
  rw[hsome]
  rfl


def GivesE (m n:Nat) (S:Sm) (cs:List Int) (w:World) (v:Value) (w':World):Prop :=
 ∃ N1 N2 N3 N4 N5 N6 E1 E2 E3 E4 E5 E6,v=.tuple #[.agg (eqC m n E1 E2 E3 E4 E5 E6),.bool true]∧Dm m n S∧New (N6++(N1++(N2++(N3++(N4++N5))))) w w'∧OwnZ N1 E1 (m*m) S.u.flatten∧OwnZ N3 E3 (m*n) S.d.flatten∧OwnZ N4 E4 (n*n) S.v.flatten∧OwnZ N6 E6 m cs∧(∃ A c,E2=.slice A (m*m) c)∧(∃ A c,E5=.slice A (n*n) c)

theorem YG {K r c:Nat} {g:List (List Int)} (h:Rec r c g) (hg:okG K g=true) (hr:r≤200) (hc:c≤200):BdZ K (gM r c g):=by
 rw[← Q8z (Xs h hr hc)]
 refine BdZ.of fun i j hi hj=>?_
 rw[← Qg7 hi hj,Qlt h hi hj]
 exact Z7 hg i j

theorem Qas (K fc f L:Nat) (w:World) (v u:Value) (a:ZM) (bs:List Int) (S':Sm) (ha:RtZ a) (hv:IsM w v a) (hu:WZ w u a.r bs) (hK:K+1+K+1+L≤3500000000000) (hb:BdZ (K+1) a) (hL:BdL L bs)
  (hf:formF (K+1) fc f a.r a.c (min a.r a.c) 0 (startS a.r a.c (rowsOf a))=some S') :
  Calls Tryz.prog 71 #[v,u] w (Ret fun v w'=>Kp [] w w'∧GivesE a.r a.c S' (appL (gM a.r a.r S'.u) bs) w v w'):=by
 have hv0:=hv
 have hvX:=hv.x
 have hr:=ha.r
 have hac:=ha.c
 have hbl:bs.length=a.r:=by simpa using hu.len
 have hbS:=YV hf (Yd ha hb)
 obtain⟨E,rfl,hE⟩:=hv
 obtain⟨A0,c0,rfl⟩:=hE.form
 obtain⟨A1,c1,rfl⟩:=hu.form
 refine Q9 [⟨4,2,[],[]⟩] [] spq [] Tryz.func71 rfl mixed (by kernel_rfl) Tryz.ntmps71 Tryz.results71 rfl ⟨by simp,by simp⟩ spq ?_
 simp only[toS,textOps,toSOp,kindAt,kindOf,odAt,sopsAt,ordOf,zipF]
 repeat' first|apply jS|apply jO|apply jN|refine Q0 ?_|refine Q7 ?_|refine Qc fun _=>?_|refine Qt fun _=>?_|apply jT
 rename_i b2 b4
 refine Q6 trivial rfl rfl rfl (fun w hk _=>X1 w _ a.xm (hvX.mono hk) (by have:=Q1u ha;omega)) fun w v w' _ _ _ hR=>?_
 obtain⟨b',rfl,hb'⟩:=hR
 obtain rfl:=hb'.2 ha.rx
 repeat' first|apply jS|apply jO|apply jN|apply jT|refine Q1 ?_|refine Q3 ?_|refine Qb ?_|refine Q7 ?_|refine ZA (h:=?_)|refine Qx (h:=?_)|refine QP (h:=?_)|(refine Z5 (h1:=?_) (h2:=?_)<;>intro hc<;>try (exfalso;omega))|apply jK|refine Q4 rfl ?_
 all_goals first
  | (exfalso;omega)
  | skip
 refine Qd (A:=[_,_]) (B:=[]) rfl pqq rfl eqq rfl (fun w hk hs=>Qay K fc f w _ a S' ha (hv0.mono hk) oq hb hf) fun w v w' _ _ _ hR=>?_
 obtain⟨N1,N2,N3,N4,N5,E1,E2,E3,E4,E5,rfl,hD,hN,hO1,hO2,hO3,hO4,hO5⟩:=hR
 obtain⟨A1',c1',rfl⟩:=hO1.form
 obtain⟨A2',c2',rfl⟩:=hO2.form
 obtain⟨A3',c3',rfl⟩:=hO3.form
 obtain⟨A4',c4',rfl⟩:=hO4.form
 obtain⟨A5',c5',rfl⟩:=hO5.form
 refine⟨_,hN,?_⟩
 unfold smC
 repeat' first|apply jS|apply jD|apply jN|refine Q3 ?_|refine Q2 ?_|refine Qc fun _=>?_|refine Q2 ?_|apply jT
 have hUr:RtZ (gM a.r a.r S'.u):=Xs hD.u hr hr
 have hO1z:OwnZ N1 (.slice A1' (a.r*a.r) c1') (gM a.r a.r S'.u).e.length (gM a.r a.r S'.u).e:=by rw[show (gM a.r a.r S'.u).e.length=a.r*a.r from YW hD.u];exact hO1
 have hUb:BdZ (K+1) (gM a.r a.r S'.u):=YG hD.u hbS.u hr hr
 refine XD 0 rfl eqq rfl rfl rfl rfl rfl rfl ?_
 repeat' first|refine Q1 ?_|fail
 refine Qd (A:=[_,_,_]) (B:=(N1++(N2++(N3++(N4++N5)))++[])) rfl pqq rfl eqq rfl (fun w hk hs=>Qmg L w _ a.r bs (hu.mono hk) oq oq hL) fun w v w' _ _ _ hR=>?_
 obtain⟨N7,hN7,hO7⟩:=hR
 obtain⟨A7,c7,rfl⟩:=hO7.form
 refine⟨N7,hN7,?_⟩
 skip
 refine Qd (A:=[_,_,_]) (B:=N7++(N1++(N2++(N3++(N4++N5)))++[])) rfl pqq rfl eqq rfl (fun w hk hs=>Qfy (K+1) L w _ _ (gM a.r a.r S'.u) bs hUr hbl.symm oq hUb hL ⟨_,rfl,hO1z.rd.at hk hs (HSub.skip (HSub.skip (HSub.skip (by simp only[List.append_nil];first|exact Qj Qv|exact Qj (Qj Qv)))))⟩ (by rw[hbl];exact hO7.rd.at hk hs Q5)) fun w v w' _ _ _ hR=>?_
 obtain⟨N6,E6,hN6,rfl,hO6⟩:=hR
 rw[Q8a]at hO6
 obtain⟨A6,c6,rfl⟩:=hO6.form
 refine⟨N6,hN6,?_⟩
 repeat' first|apply jS|apply jO|apply jN|refine Q1 ?_|refine Q0 ?_|refine Q7 ?_|refine Qn (h:=?_)|apply jT
 refine Zh (l:=[(0,.agg #[nv a.r,nv a.r,.slice A1' (a.r*a.r) c1',nv a.r,nv a.r,.slice A2' (a.r*a.r) c2',nv a.r,nv a.c,.slice A3' (a.r*a.c) c3',nv a.c,nv a.c,.slice A4' (a.c*a.c) c4',nv a.c,nv a.c,.slice A5' (a.c*a.c) c5']),(1,.slice A6 (appL (gM a.r a.r S'.u) bs).length c6)]) (cs:=eqC a.r a.c (.slice A1' (a.r*a.r) c1') (.slice A2' (a.r*a.r) c2') (.slice A3' (a.r*a.c) c3') (.slice A4' (a.c*a.c) c4') (.slice A5' (a.c*a.c) c5') (.slice A6 (appL (gM a.r a.r S'.u) bs).length c6)) rfl rfl rfl (by kernel_rfl) ?_
 unfold eqC
 repeat' first|apply jN|apply jT|refine Q1 ?_|refine Q0 ?_|refine Q2 ?_|refine Q2 ?_|apply jR
 refine Q00 1 rfl rfl rfl rfl (fun a' w' st=>⟨st.kp,N1,N2,N3,N4,N5,N6,_,_,_,_,_,_,rfl,hD,st.newOf rfl ?_,hO1,hO3,hO4,?_,⟨_,_,rfl⟩,⟨_,_,rfl⟩⟩)
 ·exact HSub.skip (HSub.skip (HSub.skip (by simp only[List.append_nil];exact ZO (Qj (HSub.refl _)))))
 ·have:=hO6
  rw[W0]at this ⊢
  exact this


def solE (D:ZM) (cs:List Int) (i:Nat):Int:=if diaR D i=0 then 0 else cs.getD i 0 / diaR D i
def solS (D:ZM) (cs:List Int) (n:Nat) (pre:List Nat):List Int:=tab n fun i=>if i∈pre then solE D cs i else 0
theorem Qck {D:ZM} {cs:List Int} {n k:Nat} {pre:List Nat} (hd:diaR D k≠0):(solS D cs n pre).set k (cs.getD k 0 / diaR D k)=solS D cs n (pre++[k]):=by
 unfold solS
 rw[Q7u]
 refine Zo fun i hi=>?_
 by_cases h:i=k
 ·subst h
  rw[if_pos rfl,if_pos spq]
  unfold solE
  rw[if_neg hd]
 ·rw[if_neg h]
  by_cases h2:i∈pre
  ·rw[if_pos h2,if_pos (by simp[h2])]
  ·rw[if_neg h2,if_neg (by simp[h2,h])]
theorem Qcl {D:ZM} {cs:List Int} {n k:Nat} {pre:List Nat} (hd:diaR D k=0):solS D cs n pre=solS D cs n (pre++[k]):=Zo fun i hi=>by
 by_cases h:i∈pre
 ·rw[if_pos h,if_pos (by simp[h])]
 ·by_cases h2:i=k
  ·subst h2
   rw[if_neg h,if_pos spq]
   unfold solE
   rw[if_pos hd]
  ·rw[if_neg h,if_neg (by simp[h,h2])]
theorem Qcj (D:ZM) (cs:List Int) (n:Nat):solS D cs n []=tab n fun _=>0:=Zo fun i hi=>by rw[if_neg spq]
theorem Qop {L:Nat} {a b:Int} (h:a.natAbs<256 ^ L):(a / b).natAbs<256 ^ L:=Nat.lt_of_le_of_lt (Int.natAbs_ediv_le_natAbs a b) h
theorem Qke {L:Nat} {D:ZM} {cs:List Int} {n:Nat} {pre:List Nat} (h:BdL L cs):BdL L (solS D cs n pre):=fun i=>by
 by_cases hi:i<n
 ·unfold solS
  rw[ZG hi]
  split
  ·unfold solE
   split
   ·exact Xf _
   ·exact Qop (h i)
  ·exact Xf _
 ·rw[List.getD,List.getElem?_eq_none (by unfold solS;rw[Xj];omega)];exact Xf _
theorem Qgm (D:ZM) (cs:List Int) (n:Nat) (pre:List Nat):(solS D cs n pre).length=n:=Xj _ _
theorem Qj7 {N:SHeap} {A:Option Addr} {n cap:Nat} {xs:List Int} (h:OwnZ N (.slice A n cap) n xs) (d:Nat):∃ be,(be=d∨∃ o,(be,o)∈N)∧(0<n→∀ x,A=some x→x.block=be):=by
 obtain⟨_,⟨h1,h2,h3⟩|⟨b,cap',cur,h1,h3,_⟩⟩:=h
 ·exact⟨d,.inl rfl,fun _ x hx=>by simp at h1;rw[h1.1]at hx;cases hx⟩
 ·refine⟨b,.inr ⟨_,by rw[h3];exact List.mem_cons_self⟩,fun _ x hx=>by simp at h1;rw[h1.1]at hx;cases hx;rfl⟩
def solV (S:Sm) (m n:Nat) (bs:List Int):List Int:=appL (gM n n S.v) (solS (gM m n S.d) (appL (gM m m S.u) bs) n (List.range m))

theorem Q8u (K fc f L:Nat) (w0:World) (v u:Value) (a:ZM) (bs:List Int) (S':Sm) (ha:RtZ a) (hv:IsM w0 v a) (hu:WZ w0 u a.r bs) (hK:K+1+K+1+L+2≤3500000000000) (hb:BdZ (K+1) a) (hL:BdL L bs)
  (hf:formF (K+1) fc f a.r a.c (min a.r a.c) 0 (startS a.r a.c (rowsOf a))=some S') (hw:wrongF (gM a.r a.c S'.d) (appL (gM a.r a.r S'.u) bs)=none) :
  Calls Tryz.prog 37 #[v,u] w0 (Ret fun v w'=>Kp [] w0 w'∧∃ N E,New N w0 w'∧v=.tuple #[E,.bool true]∧OwnZ N E a.c (solV S' a.r a.c bs)):=by
 have hv0:=hv
 have hr:=ha.r
 have hac:=ha.c
 have hbS:=YV hf (Yd ha hb)
 obtain⟨E,rfl,hE⟩:=hv
 obtain⟨A0,c0,rfl⟩:=hE.form
 obtain⟨A1,c1,rfl⟩:=hu.form
 refine YA 5 [⟨12,2,[],[]⟩] Tryz.func37 rfl mixed (by kernel_rfl) Tryz.ntmps37 spq ?_
 simp only[toZ,hasRF,Bool.or_false,Bool.false_or,Bool.or_self,Bool.true_or,cond_true,cond_false,toS,textOps,toSOp,kindAt,kindOf,odAt,sopsAt,ordOf,zipF]

 repeat' first|apply jS|apply jO|apply jN|refine Q1 ?_|refine Q0 ?_|refine Q7 ?_|refine Qt fun _=>?_|apply jT
 rename_i b2
 refine Qd (A:=[_]) (B:=[]) rfl pqq rfl eqq rfl (fun w hk hs=>Qas K fc f L w _ _ a bs S' ha (hv0.mono hk) (hu.mono hk) oq hb hL hf) fun w v w' _ _ _ hR=>?_
 obtain⟨N1,N2,N3,N4,N5,N6,E1,E2,E3,E4,E5,E6,rfl,hD,hN,hO1,hO3,hO4,hO6,⟨A2',c2',rfl⟩,⟨A5',c5',rfl⟩⟩:=hR
 obtain⟨A1',c1',rfl⟩:=hO1.form
 obtain⟨A3',c3',rfl⟩:=hO3.form
 obtain⟨A4',c4',rfl⟩:=hO4.form
 obtain⟨A6',c6',rfl⟩:=hO6.form
 refine⟨_,hN,?_⟩
 have hUr:RtZ (gM a.r a.r S'.u):=Xs hD.u hr hr
 have hDr:RtZ (gM a.r a.c S'.d):=Xs hD.d hr hac
 have hVr:RtZ (gM a.c a.c S'.v):=Xs hD.v hac hac
 have hUb:BdZ (K+1) (gM a.r a.r S'.u):=YG hD.u hbS.u hr hr
 have hDb:BdZ (K+1) (gM a.r a.c S'.d):=YG hD.d hbS.d hr hac
 have hVb:BdZ (K+1) (gM a.c a.c S'.v):=YG hD.v hbS.v hac hac
 have hcb:BdL (K+1+L+1) (appL (gM a.r a.r S'.u) bs):=Q61 hUr hUb hL
 obtain⟨cs,hcs⟩:∃ cs,cs=appL (gM a.r a.r S'.u) bs:=⟨_,rfl⟩
 rw[← hcs]at hw hO6 hcb
 unfold eqC
 repeat' first|apply jS|apply jO|apply jN|apply jT|refine Q1 ?_|refine Q0 ?_|refine Q7 ?_|refine QP (h:=?_)|refine Qn (h:=?_)|refine Q2 ?_|refine Qc fun _=>?_|refine Q2 ?_|apply jK|refine Q4 rfl ?_
 rename_i b6
 refine Q6 pqq rfl eqq rfl (fun w hk hs=>Q5s (K+1+L+1) w _ _ _ _ _ _ (gM a.r a.c S'.d) a.r a.c cs hDr rfl rfl (hO3.rd.at hk hs (by simp only[List.cons_append,List.nil_append,List.append_assoc,List.append_nil,List.set_cons_zero];exact HSub.skip (HSub.skip (Qj (Qj (Qj Qv)))))) (hO6.rd.at hk hs (by simp only[List.cons_append,List.nil_append,List.append_assoc,List.append_nil,List.set_cons_zero];exact HSub.skip (HSub.skip (Qv)))) oq (fun i=>Y6 (hDb i) oq) hcb) fun w v w' _ _ _ hR=>?_
 unfold wrongV at hR
 rw[hw]at hR
 subst hR
 repeat' first|apply jS|apply jO|apply jN|apply jT|refine Q1 ?_|refine Q3 ?_|refine Q0 ?_|refine Qb ?_|refine Qn (h:=?_)|refine Q2 ?_|refine Qc fun _=>?_|refine Q2 ?_|apply jK|refine Q4 rfl ?_
 rename_i b9
 refine Y7 rfl rfl rfl rfl rfl oq oq (fun by1=>?_)
 have h0:=X9 by1 a.c (by simp only[maxLen];omega)
 repeat' first|apply jS|apply jO|apply jN|refine Q3 ?_|refine Qc fun _=>?_|refine Zg (k:=_) (h:=?_)|apply jT
 rename_i b11
 refine XD 3 rfl eqq rfl rfl rfl rfl rfl rfl ?_
 skip
 refine Qd (A:=[_,_,_,_,_]) (B:=N6++(N1++(N2++(N3++(N4++N5))))++[]) rfl pqq rfl eqq rfl (fun w hk _=>Q8q w a.r a.c (a.r*a.c) c3' A3') fun w v w' _ _ _ hR=>?_
 obtain⟨bx,rfl,hNx⟩:=hR
 refine⟨_,hNx,?_⟩
 obtain⟨be,hbe,hA3⟩:=Qj7 hO3 bx
 repeat' first|apply jN|apply jT|apply jB
 refine Q11 (od:=[⟨12,2,[],[]⟩]) _ rfl mixed rfl rfl (enters_of Tryz.func114 (by kernel_rfl) rfl) (Q0e hDr hA3)
  (fun pre H'=>∃ Ny,H'=[(bx,.cells #[nv a.r,nv a.c,.slice A3' (a.r*a.c) c3'] 26 (0,0)),(b11,.cells #[.slice (some ⟨by1,0,none⟩) a.c a.c] 24 (0,0)),(b6,.cells (eqC a.r a.c (.slice A1' (a.r*a.r) c1') (.slice A2' (a.r*a.r) c2') (.slice A3' (a.r*a.c) c3') (.slice A4' (a.c*a.c) c4') (.slice A5' (a.c*a.c) c5') (.slice A6' a.r c6')) 91 (0,0))]++(Ny++(N6++(N3++N4)))∧OwnZ Ny (.slice (some ⟨by1,0,none⟩) a.c a.c) a.c (solS (gM a.r a.c S'.d) cs a.c pre))
  (fun _ _=>False)
  (by rintro k _ ⟨Ny,rfl,_⟩;exact List.mem_cons_self) (fun _ _ h=>h.elim)
  (fun q hq => by
   rcases List.mem_cons.1 hq with rfl|hq
   ·exact .inr ⟨_,fun k H' h=>by obtain⟨Ny,rfl,_⟩:=h;exact List.mem_cons_self,fun k H' h=>h.elim⟩
   ·cases List.mem_singleton.1 hq
    rcases hbe with rfl|⟨o,ho⟩
    ·exact .inr ⟨_,fun k H' h=>by obtain⟨Ny,rfl,_⟩:=h;exact List.mem_cons_self,fun k H' h=>h.elim⟩
    ·exact .inr ⟨o,fun k H' h=>by obtain⟨Ny,rfl,_⟩:=h;simp[ho],fun k H' h=>h.elim⟩)
  (by rintro k _ ⟨Ny,rfl,hO⟩;exact Cells.cons (Cells.cons (Cells.cons (hO.cells.app (hO6.cells.app (hO3.cells.app hO4.cells)))))) _ ⟨_,rfl,by rw[Qcj];exact h0⟩ ?_
  (fun W hk hs => ⟨hs.blk _ List.mem_cons_self, (OwnZ.rd (c := ⟨Tryz.prog, 62, w0, [], by simp⟩) hO3).at hk hs (HSub.skip (HSub.skip (HSub.skip (Qj (Qj Qv))))), by
   rcases hbe with rfl|⟨o,ho⟩
   ·exact Q2u (hs.blk _ List.mem_cons_self)
   ·exact Q2u (hs.blk (be,o) (by simp[ho]))⟩)
  (fun i b=>[(12,nv i),(13,.pointer (some ⟨b,0,none⟩)),(11,.pointer (some ⟨b11,0,none⟩)),(6,.pointer (some ⟨b6,0,none⟩))])
  (fun i=>some (.cells #[.bool (wz (diaR (gM a.r a.c S'.d) i)).1,sv (wz (diaR (gM a.r a.c S'.d) i)).2] 35 (0,0))) ?_ rfl rfl (by kernel_rfl) (by kernel_rfl) rfl (fun _ _ h=>h) (fun _ _ h=>h) ?_ ?_ ?_ (fun D k H' h _=>h.elim)
 ·exact HSub.at 5 rfl (HSub.at 0 rfl (HSub.at 2 rfl (HSub.at 0 rfl (HSub.skip (HSub.skip (by
   simp only[List.append_nil,List.nil_append]
   show HSub (N6++(N3++N4)) (N6++(N1++(N2++(N3++(N4++N5)))))
   exact ZO (Qj (Qj (ZO Qv)))))))))
 ·rintro i o _ k _ ⟨Ny,rfl,hO⟩ p hp
  refine .inr ?_
  have hk:=X2 hO h0
  show p.1∈keys ([_,_,_]++([_]++(N6++(N3++N4))))
  have h2:=List.mem_map_of_mem (f:=(·.1)) hp
  simp only[keys,List.map_append]at h2 hk ⊢
  rw[hk]at h2
  exact h2
 ·intro l i W hW
  simp only[toB,textOps,toSOp,kindAt,kindOf,odAt,sopsAt,ordOf,exH,List.nil_append,List.cons_append]
  repeat' first|apply jS|apply jO|apply jN|refine Q0 ?_|refine Q2 ?_|refine Qc fun _=>?_|refine Q2 ?_|apply jT
  exact W5 0 rfl rfl rfl cqq
 ·rintro l i pre b _ W1 hM' hi hpl ⟨Ny,rfl,hO⟩ hl hln hkb hge
  simp only[toB,textOps,toSOp,kindAt,kindOf,odAt,sopsAt,ordOf,exH,List.nil_append,List.cons_append]
  have hoth:RdZ ⟨Tryz.prog,62,W1,_,hM'⟩ N6 (.slice A6' a.r c6') a.r cs:=hO6.rd
  have hdb:(diaR (gM a.r a.c S'.d) i).natAbs<256 ^ (K+1+L+1):=by
   unfold diaR
   split
   ·exact Y6 (hDb.at i i) oq
   ·exact pos256 _
  unfold eqC
  repeat' first|apply jS|apply jO|refine Q7 ?_|apply jB
  refine Q6 pqq rfl eqq rfl (fun w _ _=>Q0j w _ (diaR (gM a.r a.c S'.d) i) (K+1+L+1) (Qf hdb) oq) fun w v w' _ _ _ hR=>?_
  subst hR
  by_cases hdz:diaR (gM a.r a.c S'.d) i=0
  ·rw[decide_eq_true hdz]
   repeat' first|apply jN|apply jT|refine QP (h:=?_)|apply jK|refine Q4 rfl ?_|apply jW
   exact Zl ⟨Ny,rfl,by rw[← Qcl hdz];exact hO⟩ (Cells.cons (Cells.cons (Cells.cons (hO.cells.app (hO6.cells.app (hO3.cells.app hO4.cells)))))) (HSub.skip (HSub.refl _))
  ·rw[decide_eq_false hdz]
   have hic:i<a.c:=by
    unfold diaR at hdz
    split at hdz
    ·assumption
    ·exact absurd rfl hdz
   repeat' first|apply jN|apply jT|refine QP (h:=?_)|refine Q8 rfl ?_
   refine QX ([(b,.cells #[.bool (wz (diaR (gM a.r a.c S'.d) i)).1,sv (wz (diaR (gM a.r a.c S'.d) i)).2] 35 (0,0)),(b11,.cells #[.slice (some ⟨by1,0,none⟩) a.c a.c] 24 (0,0)),(b6,.cells #[nv a.r,nv a.r,.slice A1' (a.r*a.r) c1',nv a.r,nv a.r,.slice A2' (a.r*a.r) c2',nv a.r,nv a.c,.slice A3' (a.r*a.c) c3',nv a.c,nv a.c,.slice A4' (a.c*a.c) c4',nv a.c,nv a.c,.slice A5' (a.c*a.c) c5',.slice A6' a.r c6'] 91 (0,0))]++N6) (HSub.at 0 rfl (HSub.at 1 rfl (HSub.at 1 rfl (HSub.skip (Qj Qv))))) ?_
   repeat' first|refine Q1 ?_|refine Q3 ?_|refine Qb ?_|refine Q7 ?_|refine Ze (h:=?_)|refine W7 (h:=?_)|fail
   refine Q6 pqq rfl eqq rfl (fun w _ _=>Q15 w _ _ (cs.getD i 0) (diaR (gM a.r a.c S'.d) i) (K+1+L+1) (Qf (hcb i)) (Qf hdb) oq) fun w v w' _ _ _ hR=>?_
   rw[if_neg hdz]at hR
   subst hR
   repeat' first|refine Q1 ?_|refine Ze (h:=?_)|refine Qn (h:=?_)|fail
   refine Q13 (A:=[_,_,_,_]) hO rfl rfl pqq rfl rfl hic (fun N' hO'=>?_)
   rw[Qck hdz]at hO'
   repeat' first|apply jN|apply jW
   exact Zl ⟨N',rfl,hO'⟩ (Cells.cons (Cells.cons (Cells.cons (hO'.cells.app (hO6.cells.app (hO3.cells.app hO4.cells)))))) (HSub.skip (HSub.refl _))
 ·rintro D _ ⟨Ny,rfl,hO⟩ hDd
  simp only[toS,textOps,toSOp,kindAt,kindOf,odAt,sopsAt,ordOf]
  repeat' first|apply jS|refine Q3 ?_|apply jO
  unfold eqC
  refine XD 3 rfl eqq rfl rfl rfl rfl rfl rfl ?_
  repeat' first|refine Qb ?_|fail
  have hO4z:OwnZ N4 (.slice A4' (a.c*a.c) c4') (gM a.c a.c S'.v).e.length (gM a.c a.c S'.v).e:=by rw[show (gM a.c a.c S'.v).e.length=a.c*a.c from YW hD.v];exact hO4
  have hyl:=Qgm (gM a.r a.c S'.d) cs a.c (List.range (gM a.r a.c S'.d).r)
  refine Qd (A:=[_,_,_,_]) (B:=Ny++(N6++(N3++N4))) rfl pqq rfl eqq rfl (fun w hk hs=>Qfy (K+1) (K+1+L+1) w _ _ (gM a.c a.c S'.v) (solS (gM a.r a.c S'.d) cs a.c (List.range (gM a.r a.c S'.d).r)) hVr hyl.symm oq hVb (Qke hcb) ⟨_,rfl,hO4z.rd.at hk hs (HSub.skip (HSub.skip (HSub.skip (HSub.skip (Qj (Qj (Qj (Qj (HSub.refl _)))))))))⟩ (by rw[hyl];exact hO.rd.at hk hs (HSub.skip (HSub.skip (HSub.skip (HSub.skip Qv)))))) fun w v w' _ _ _ hR=>?_
  obtain⟨N7,E7,hN7,rfl,hO7⟩:=hR
  rw[Q8a,W0]at hO7
  obtain⟨A7,c7,rfl⟩:=hO7.form
  refine⟨N7,hN7,?_⟩
  repeat' first|apply jN|apply jT|refine Q0 ?_|refine Qn (h:=?_)|apply jR
  refine Xc 0 rfl hDd rfl ?_
  refine Yp rfl rfl (fun a' w' st=>⟨st.kp,N7,_,st.newOf rfl (HSub.skip (HSub.skip (HSub.skip Qv))),rfl,?_⟩)
  unfold solV
  rw[← hcs]
  exact hO7


def colL (b:ZM) (j:Nat):List Int:=tab b.r fun i=>b.at i j
def corE (S:Sm) (z b:ZM) (i j:Nat):Int:=(solV S z.r z.c (colL b j)).getD i 0
def corZ (S:Sm) (z b:ZM):ZM:=zof z.c b.c (corE S z b)
def corS (S:Sm) (z b:ZM) (j i:Nat):List Int:=tbz z.c b.c fun a c=>if c<j∨(c=j∧a<i) then corE S z b a c else 0
theorem Qf1 (S:Sm) (z b:ZM):corS S z b 0 0=tab (z.c*b.c) fun _=>0:=by
 rw[← Q4r]
 exact QO fun i j _ _=>by rw[if_neg oq]
theorem Qi8 {S:Sm} {z b:ZM} {j i:Nat} (hj:j<b.c):(corS S z b j i).set (i*b.c+j) (corE S z b i j)=corS S z b j (i+1):=by
 unfold corS
 rw[Q4s hj]
 refine QO fun a c _ _=>?_
 by_cases h:a=i∧c=j
 ·obtain⟨rfl,rfl⟩:=h
  rw[if_pos ⟨rfl,rfl⟩,if_pos oq]
 ·rw[if_neg h]
  by_cases h2:c<j∨(c=j∧a<i)
  ·rw[if_pos h2,if_pos oq]
  ·rw[if_neg h2,if_neg oq]
theorem Qf2 {S:Sm} {z b:ZM} {j:Nat}:corS S z b j z.c=corS S z b (j+1) 0:=QO fun a c ha _=>by
 by_cases h2:c<j∨(c=j∧a<z.c)
 ·rw[if_pos h2,if_pos oq]
 ·rw[if_neg h2,if_neg oq]
theorem Qi9 {S:Sm} {z b:ZM}:corS S z b b.c 0=(corZ S z b).e:=QO fun a c _ hc=>by rw[if_pos (.inl hc)]
theorem Qm4 {L:Nat} {b:ZM} (h:BdZ L b) (j:Nat):BdL L (colL b j):=fun i=>by
 by_cases hi:i<b.r
 ·unfold colL
  rw[ZG hi]
  exact h.at i j
 ·rw[List.getD,List.getElem?_eq_none (by unfold colL;rw[Xj];omega)];exact Xf _
theorem Qm3 {S:Sm} {z b:ZM} (hz:RtZ z) (hb:RtZ b):RtZ (corZ S z b):=YN hz.c hb.c

theorem Qmm (K fc f L:Nat) (w0:World) (v u:Value) (z b:ZM) (S':Sm) (hz:RtZ z) (hb:RtZ b) (hzb:b.r=z.r) (hv:IsM w0 v z) (hu:IsM w0 u b) (hK:K+1+K+1+L+2≤3500000000000) (hbz:BdZ (K+1) z) (hbb:BdZ L b)
  (hf:formF (K+1) fc f z.r z.c (min z.r z.c) 0 (startS z.r z.c (rowsOf z))=some S') (hw:∀ j,j<b.c→wrongF (gM z.r z.c S'.d) (appL (gM z.r z.r S'.u) (colL b j))=none) :
  Calls Tryz.prog 57 #[v,u] w0 (Ret fun v w'=>Kp [] w0 w'∧GivesMB (corZ S' z b) true w0 v w'):=by
 have hv0:=hv
 have hu0:=hu
 have hzr:=hz.r
 have hzc:=hz.c
 have hbr:=hb.r
 have hbc:=hb.c
 obtain⟨E,rfl,hE⟩:=hv
 obtain⟨A0,c0,rfl⟩:=hE.form
 obtain⟨E',rfl,hE'⟩:=hu
 obtain⟨A1,c1,rfl⟩:=hE'.form
 refine Q9 [] [] spq [] Tryz.func57 rfl mixed (by kernel_rfl) Tryz.ntmps57 Tryz.results57 rfl ⟨by simp,by simp⟩ spq ?_
 simp only[toS,textOps,toSOp,kindAt,kindOf,odAt,sopsAt,ordOf,zipF]
 repeat' first|apply jS|apply jO|apply jN|refine Q3 ?_|refine Q0 ?_|refine Qb ?_|refine Qc fun _=>?_|refine Qt fun _=>?_|apply jT
 rename_i b2 b3 b4
 refine Qd (A:=[_,_,_]) (B:=[]) rfl pqq rfl eqq rfl (fun w hk hs=>Qau z.c b.c hzc hbc w) fun w v w' _ _ _ hR=>?_
 obtain⟨N0,E0,hN0,rfl,hO0⟩:=hR
 obtain⟨Ao,co,rfl⟩:=hO0.form
 refine⟨N0,hN0,?_⟩
 repeat' first|apply jS|apply jO|apply jN|apply jT|refine Q1 ?_|refine Q3 ?_|refine Qb ?_|refine Q2 ?_|refine Qc fun _=>?_|refine Q2 ?_|apply jB
 rename_i b6
 refine Qi (ι:=Nat × SHeap) ⟨fun k=>[(21,nv k.1),(20,nv b.c),(6,.pointer (some ⟨b6,0,none⟩)),(4,.pointer (some ⟨b4,0,none⟩)),(3,.pointer (some ⟨b3,0,none⟩)),(2,.pointer (some ⟨b2,0,none⟩))],fun k=>[(b6,.cells #[nv z.c,nv b.c,.slice Ao (z.c*b.c) co] 26),(b4,.cells #[iv 0,iv 0,.slice none 0 0] 26),(b3,.cells #[nv b.r,nv b.c,.slice A1 b.e.length c1] 26),(b2,.cells #[nv z.r,nv z.c,.slice A0 z.e.length c0] 26)]++(k.2++[]),
  fun k=>k.1≤b.c∧OwnZ k.2 (.slice Ao (z.c*b.c) co) (z.c*b.c) (corS S' z b k.1 0),fun k=>b.c-k.1⟩ (0,N0) ⟨Nat.zero_le _,by rw[Qf1];exact hO0⟩ cqq (HSub.refl _) (fun k hk=>?_)
 obtain⟨j,N⟩:=k
 obtain⟨hjb,hO⟩:=hk
 dsimp only at hjb hO ⊢
 by_cases hj:j<b.c
 ·repeat' first|apply jS|apply jO|apply jN|apply jT|refine Q1 ?_|refine Q3 ?_|refine Q0 ?_|refine Qb ?_|(refine Qk (h1:=?_) (h2:=?_)<;>intro hc<;>try (exfalso;omega))|apply jK|refine Q8 rfl ?_|apply jB
  refine Y7 rfl rfl rfl rfl rfl oq oq (fun by1=>?_)
  have h0:=X9 by1 b.r (by simp only[maxLen];omega)
  repeat' first|apply jS|apply jO|apply jN|apply jT|refine Q1 ?_|refine Q3 ?_|refine Q0 ?_|refine Qb ?_|apply jB
  refine Qi (ι:=Nat × SHeap) ⟨fun q=>[(29,nv q.1),(28,nv b.r),(8,.slice (some ⟨by1,0,none⟩) b.r b.r),(7,nv j),(21,nv j),(20,nv b.c),(6,.pointer (some ⟨b6,0,none⟩)),(4,.pointer (some ⟨b4,0,none⟩)),(3,.pointer (some ⟨b3,0,none⟩)),(2,.pointer (some ⟨b2,0,none⟩))],fun q=>[(b6,.cells #[nv z.c,nv b.c,.slice Ao (z.c*b.c) co] 26),(b4,.cells #[iv 0,iv 0,.slice none 0 0] 26),(b3,.cells #[nv b.r,nv b.c,.slice A1 b.e.length c1] 26),(b2,.cells #[nv z.r,nv z.c,.slice A0 z.e.length c0] 26)]++(q.2++(N++[])),
   fun q=>q.1≤b.r∧OwnZ q.2 (.slice (some ⟨by1,0,none⟩) b.r b.r) b.r (tab b.r fun i=>if i<q.1 then b.at i j else 0),fun q=>b.r-q.1⟩ (0,_) ⟨Nat.zero_le _,by simpa using h0⟩ cqq (HSub.at 1 rfl (HSub.at 1 rfl (HSub.at 1 rfl (HSub.at 1 rfl (HSub.refl _))))) (fun q hq=>?_)
  obtain⟨i,Ny⟩:=q
  obtain⟨hib,hOy⟩:=hq
  dsimp only at hib hOy ⊢
  by_cases hi:i<b.r
  ·repeat' first|apply jS|apply jO|apply jN|apply jT|refine Q1 ?_|refine Q0 ?_|refine Q7 ?_|(refine Qk (h1:=?_) (h2:=?_)<;>intro hc<;>try (exfalso;omega))|apply jK|refine Q8 rfl ?_|apply jB
   refine Q6 pqq rfl eqq rfl (fun w hk hs=>c_At w _ b (i:Int) (j:Int) hb (hu0.mono hk)) fun w v w' _ _ _ hR=>?_
   rw[Qg7 hi hj]at hR
   subst hR
   repeat' first|refine Ze (h:=?_)|fail
   refine Q13 (A:=[_,_,_,_]) hOy rfl rfl pqq rfl rfl hi (fun N' hO'=>?_)
   rw[Q91 (f:=fun i=>b.at i j)]at hO'
   repeat' first|apply jO|apply jN|apply jT|refine Q1 ?_|refine Qg ?_|apply jW
   exact Qa (i+1,N') ⟨by dsimp only;omega,hO'⟩ dgq cqq (HSub.refl _)
  ·obtain rfl:i=b.r:=by omega
   have hcol:(tab b.r fun i=>if i<b.r then b.at i j else 0)=colL b j:=Zo fun i hi=>if_pos hi
   rw[hcol]at hOy
   repeat' first|apply jS|apply jO|apply jN|apply jT|refine Q1 ?_|refine Q7 ?_|(refine Qk (h1:=?_) (h2:=?_)<;>intro hc<;>try (exfalso;omega))|apply jU|apply jE|refine Q4 rfl ?_|refine Qe ?_
   refine Qd (A:=[_,_,_,_]) (B:=Ny++(N++[])) rfl pqq rfl eqq rfl (fun w hk hs=>Q8u K fc f L w _ _ z (colL b j) S' hz (hv0.mono hk) (by rw[← hzb];exact hOy.rd.at hk hs Q5) hK hbz (Qm4 hbb j) hf (hw j hj)) fun w v w' _ _ _ hR=>?_
   obtain⟨N7,E7,hN7,rfl,hO7⟩:=hR
   obtain⟨A7,c7,rfl⟩:=hO7.form
   refine⟨N7,hN7,?_⟩
   repeat' first|apply jS|apply jO|apply jN|apply jT|refine Q1 ?_|refine Q0 ?_|refine ZA (h:=?_)|refine QP (h:=?_)|refine Qn (h:=?_)|apply jK|refine Q4 rfl ?_|apply jB
   refine Qi (ι:=Nat × SHeap) ⟨fun q=>[(51,nv q.1),(50,nv z.c),(49,.slice A7 z.c c7),(7,nv j),(21,nv j),(20,nv b.c),(6,.pointer (some ⟨b6,0,none⟩)),(4,.pointer (some ⟨b4,0,none⟩)),(3,.pointer (some ⟨b3,0,none⟩)),(2,.pointer (some ⟨b2,0,none⟩))],fun q=>[(b6,.cells #[nv z.c,nv b.c,.slice Ao (z.c*b.c) co] 26),(b4,.cells #[iv 0,iv 0,.slice none 0 0] 26),(b3,.cells #[nv b.r,nv b.c,.slice A1 b.e.length c1] 26),(b2,.cells #[nv z.r,nv z.c,.slice A0 z.e.length c0] 26)]++(N7++(q.2++[])),
    fun q=>q.1≤z.c∧OwnZ q.2 (.slice Ao (z.c*b.c) co) (z.c*b.c) (corS S' z b j q.1),fun q=>z.c-q.1⟩ (0,N) ⟨Nat.zero_le _,hO⟩ cqq (HSub.at 0 rfl (HSub.at 0 rfl (HSub.at 0 rfl (HSub.at 0 rfl (by
     show HSub (N7++(N++[])) (N7++(Ny++(N++[])))
     exact ZO (Qj (HSub.refl _))))))) (fun q hq=>?_)
   clear hO
   obtain⟨i,N⟩:=q
   obtain⟨hiz,hO⟩:=hq
   dsimp only at hiz hO ⊢
   have hic:i*b.c≤40000:=Nat.mul_le_mul (show i≤200 by omega) hbc
   by_cases hi:i<z.c
   ·have hlt:=Q1t hi hj
    have hRd:RdZ ⟨Tryz.prog,69,w0,[],by simp⟩ N7 (.slice A7 z.c c7) z.c (solV S' z.r z.c (colL b j)):=hO7.rd
    repeat' first|apply jS|apply jO|apply jN|apply jT|refine Q1 ?_|refine Q3 ?_|refine Q0 ?_|refine Qb ?_|refine Q7 ?_|refine Ze (h:=?_)|refine W7 (h:=?_)|refine Z6 (h:=?_)|refine Zy (h:=?_)|refine Q2 ?_|(refine Qk (h1:=?_) (h2:=?_)<;>intro hc<;>try (exfalso;omega))|refine Qc fun _=>?_|refine Q2 ?_|apply jK|refine Q8 rfl ?_|apply jB
    rename_i b13
    refine Q13 (A:=_::_::_::_::_::N7) (B:=[]) (u:=corE S' z b i j) hO rfl rfl pqq rfl rfl hlt (fun N' hO'=>?_)
    rw[Qi8 hj]at hO'
    repeat' first|apply jO|apply jN|apply jT|refine Q1 ?_|refine Qg ?_|apply jW
    exact Qa (i+1,N') ⟨by dsimp only;omega,hO'⟩ dgq cqq (HSub.skip (HSub.refl _))
   ·obtain rfl:i=z.c:=by omega
    rw[Qf2]at hO
    repeat' first|apply jS|apply jO|apply jN|apply jT|refine Q1 ?_|refine Qg ?_|(refine Qk (h1:=?_) (h2:=?_)<;>intro hc<;>try (exfalso;omega))|apply jU|apply jE|refine Q4 rfl ?_|apply jW|refine Qe ?_
    exact Qa (j+1,N) ⟨by dsimp only;omega,hO⟩ dgq cqq (HSub.at 0 rfl (HSub.at 0 rfl (HSub.at 0 rfl (HSub.at 0 rfl (by
     show HSub (N++[]) (N7++(N++[]))
     exact Qj (HSub.refl _))))))
 ·obtain rfl:j=b.c:=by omega
  rw[Qi9]at hO
  repeat' first|apply jS|apply jO|apply jN|apply jT|refine Q0 ?_|refine Q7 ?_|refine Q2 ?_|(refine Qk (h1:=?_) (h2:=?_)<;>intro hc<;>try (exfalso;omega))|refine Q2 ?_|apply jU|apply jE|apply jR|refine Q4 rfl ?_|refine Qe ?_
  exact Q00 1 rfl rfl rfl rfl (fun a w' st=>⟨st.kp,N,_,rfl,st.newOf rfl (HSub.skip (HSub.skip (HSub.skip (HSub.skip Qv)))),OwnM.mk' hO⟩)


def torL (D:ZM) (pre:List Nat):List Int:=(pre.filter fun i=>decide (1<diaR D i)).map (diaR D)
def freN (D:ZM) (pre:List Nat):Nat:=(pre.filter fun i=>decide (diaR D i=0)).length
def colQ (D:ZM) (pre:List Nat):List Int:=List.map (fun(i:Nat)=>(i:Int)) (pre.filter fun i=>decide (diaR D i=0∨1<diaR D i))
theorem Q4q {D:ZM} {pre:List Nat} {i:Nat} (h:1<diaR D i):torL D pre++[diaR D i]=torL D (pre++[i]):=by
 unfold torL;rw[List.filter_append,List.map_append];simp[h]
theorem XN {D:ZM} {pre:List Nat} {i:Nat} (h:¬1<diaR D i):torL D pre=torL D (pre++[i]):=by
 unfold torL;rw[List.filter_append,List.map_append];simp[h]
theorem Qen {D:ZM} {pre:List Nat} {i:Nat} (h:diaR D i=0):freN D pre+1=freN D (pre++[i]):=by
 unfold freN;rw[List.filter_append,List.length_append];simp[h]
theorem Q1l {D:ZM} {pre:List Nat} {i:Nat} (h:¬diaR D i=0):freN D pre=freN D (pre++[i]):=by
 unfold freN;rw[List.filter_append,List.length_append];simp[h]
theorem XI {D:ZM} {pre:List Nat} {i:Nat} (h:diaR D i=0∨1<diaR D i):colQ D pre++[(i:Int)]=colQ D (pre++[i]):=by
 unfold colQ;rw[List.filter_append,List.map_append];simp[h]
theorem Qao {D:ZM} {pre:List Nat} {i:Nat} (h:¬(diaR D i=0∨1<diaR D i)):colQ D pre=colQ D (pre++[i]):=by
 unfold colQ;rw[List.filter_append,List.map_append];simp[h]
theorem Qk4 (D:ZM) (pre:List Nat):(torL D pre).length≤pre.length:=by
 unfold torL;rw[List.length_map];exact List.length_filter_le _ _
theorem Qem (D:ZM) (pre:List Nat):freN D pre≤pre.length:=List.length_filter_le _ _
theorem Qf3 (D:ZM) (pre:List Nat):(colQ D pre).length≤pre.length:=by
 unfold colQ;rw[List.length_map];exact List.length_filter_le _ _

theorem Q9z {e:TypeId} {sz n:Nat} {N:SHeap} {v:Value} {cs:List Value} {p:Nat × Obj} (h:OwnRow e sz N v n cs) (hp:p∈N):N=[p]∧∃ cur,p.2=.cells cur e (0,0):=by
 obtain⟨_,⟨_,_,h3⟩|⟨b,cap,cur,_,h3,_⟩⟩:=h
 ·rw[h3]at hp;cases hp
 ·rw[h3]at hp
  cases List.mem_singleton.1 hp
  exact⟨h3,_,rfl⟩

theorem Qft (K fc f L K2 fc2 f2:Nat) (w0:World) (v u:Value) (z b:ZM) (Sz Sx:Sm) (hz:RtZ z) (hb:RtZ b) (hzb:b.r=z.r) (hv:IsM w0 v z) (hu:IsM w0 u b) (hK:K+1+K+1+L+2≤3500000000000) (hK2:K+K2+3≤1750000000000) (hbz:BdZ (K+1) z) (hbb:BdZ L b) (hrk:(facP Sz.d (min z.r z.c)).length=z.c)
  (hf:formF (K+1) fc f z.r z.c (min z.r z.c) 0 (startS z.r z.c (rowsOf z))=some Sz) (hw:∀ j,j<b.c→wrongF (gM z.r z.c Sz.d) (appL (gM z.r z.r Sz.u) (colL b j))=none)
  (hbx:BdZ (K2+1) (corZ Sz z b)) (hf2:formF (K2+1) fc2 f2 z.c b.c (min z.c b.c) 0 (startS z.c b.c (rowsOf (corZ Sz z b)))=some Sx) :
  Calls Tryz.prog 23 #[v,u] w0 (Ret fun v w'=>Kp [] w0 w'∧∃ N A c Ag cg Ng gs,New (Ng++N) w0 w'∧OwnZ N (.slice A (torL (gM z.c b.c Sx.d) (List.range z.c)).length c) (torL (gM z.c b.c Sx.d) (List.range z.c)).length (torL (gM z.c b.c Sx.d) (List.range z.c))∧v=.tuple #[.slice A (torL (gM z.c b.c Sx.d) (List.range z.c)).length c,nv (freN (gM z.c b.c Sx.d) (List.range z.c)),.agg #[nv z.r,nv (colQ (gM z.c b.c Sx.d) (List.range z.c)).length,.slice Ag (z.r*(colQ (gM z.c b.c Sx.d) (List.range z.c)).length) cg],.bool true]∧OwnZ Ng (.slice Ag (z.r*(colQ (gM z.c b.c Sx.d) (List.range z.c)).length) cg) (z.r*(colQ (gM z.c b.c Sx.d) (List.range z.c)).length) gs∧(colQ (gM z.c b.c Sx.d) (List.range z.c)).length≤z.c):=by
 have hv0:=hv
 have hu0:=hu
 have hvX:=hv.x
 have huX:=hu.x
 have hzr:=hz.r
 have hzc:=hz.c
 have hbr:=hb.r
 have hbc:=hb.c
 have hzl:=Q1u hz
 have hbl:=Q1u hb
 obtain⟨E,rfl,hE⟩:=hv
 obtain⟨A0,c0,rfl⟩:=hE.form
 obtain⟨E',rfl,hE'⟩:=hu
 obtain⟨A1,c1,rfl⟩:=hE'.form
 refine YA 5 [⟨1,0,[0,1,2,3,4,5,6,7,8,9,10,11,12,13,14,15,16,18,19,17,20,21],[]⟩,⟨24,2,[],[]⟩,⟨27,2,[],[]⟩] Tryz.func23 rfl mixed (by kernel_rfl) Tryz.ntmps23 spq ?_
 simp only[toZ,hasRF,Bool.or_false,Bool.false_or,Bool.or_self,Bool.true_or,cond_true,cond_false,toS,textOps,toSOp,kindAt,kindOf,odAt,sopsAt,ordOf,zipF]

 repeat' first|apply jS|apply jO|apply jD|apply jN|refine Q0 ?_|refine Q7 ?_|refine Qc fun _=>?_|refine Qt fun _=>?_|apply jT
 rename_i b2 b3 b4 b5 b6
 refine Q6 trivial rfl rfl rfl (fun w hk _=>X1 w _ z.xm (hvX.mono hk) oq) fun w v w' _ _ _ hR=>?_
 obtain⟨b',rfl,hb'⟩:=hR
 obtain rfl:=hb'.2 hz.rx
 repeat' first|refine Q1 ?_|refine Q7 ?_|refine QP (h:=?_)|fail
 refine Q6 trivial rfl rfl rfl (fun w hk _=>X1 w _ b.xm (huX.mono hk) oq) fun w v w' _ _ _ hR=>?_
 obtain⟨b'',rfl,hb''⟩:=hR
 obtain rfl:=hb''.2 hb.rx
 repeat' first|refine Q1 ?_|refine Q3 ?_|refine Qb ?_|refine Q7 ?_|refine Qx (h:=?_)|refine QP (h:=?_)|(refine Z5 (h1:=?_) (h2:=?_)<;>intro hc<;>try (exfalso;omega))|fail
 all_goals first
  | (exfalso;omega)
  | skip
 refine Q6 pqq rfl eqq rfl (fun w hk hs=>Qjo K fc f w _ z Sz hz (hv0.mono hk) oq hbz hf) fun w v w' _ _ _ hR=>?_
 rw[hrk]at hR
 subst hR
 repeat' first|apply jS|apply jO|apply jN|apply jT|refine Q7 ?_|refine Qx (h:=?_)|(refine Z5 (h1:=?_) (h2:=?_)<;>intro hc<;>try (exfalso;omega))|apply jK|refine Q4 rfl ?_
 all_goals first
  | (exfalso;omega)
  | skip
 refine Qd (A:=[_,_,_,_,_]) (B:=[]) rfl pqq rfl eqq rfl (fun w hk hs=>Qmm K fc f L w _ _ z b Sz hz hb hzb (hv0.mono hk) (hu0.mono hk) hK hbz hbb hf hw) fun w v w' _ _ _ hR=>?_
 obtain⟨Nx,Vx,rfl,hNx,hOx⟩:=hR
 obtain⟨Ex,rfl,hOx⟩:=hOx
 obtain⟨Ax,cx,rfl⟩:=hOx.form
 refine⟨Nx,hNx,?_⟩
 repeat' first|apply jS|apply jO|apply jN|apply jT|refine Q1 ?_|refine Q0 ?_|refine Q7 ?_|refine QP (h:=?_)|refine Qn (h:=?_)|refine Q2 ?_|refine Qc fun _=>?_|refine Q2 ?_|apply jK|refine Q4 rfl ?_
 rename_i b8
 have hxr:RtZ (corZ Sz z b):=Qm3 hz hb
 have hbS:=YV hf2 (Yd hxr hbx)
 refine Qd (A:=[_,_,_,_,_,_]) (B:=Nx++[]) rfl pqq rfl eqq rfl (fun w hk hs=>Qay K2 fc2 f2 w _ (corZ Sz z b) Sx hxr ⟨_,rfl,hOx.rd.at hk hs (HSub.skip (HSub.skip (HSub.skip (HSub.skip (HSub.skip (HSub.skip Qv))))))⟩ oq hbx hf2) fun w v w' _ _ _ hR=>?_
 have hR':GivesS z.c b.c Sx w v w':=hR
 obtain⟨N1,N2,N3,N4,N5,E1,E2,E3,E4,E5,rfl,hD,hN,hO1,hO2,hO3,hO4,hO5⟩:=hR'
 clear hR
 obtain⟨A1',c1',rfl⟩:=hO1.form
 obtain⟨A2',c2',rfl⟩:=hO2.form
 obtain⟨A3',c3',rfl⟩:=hO3.form
 obtain⟨A4',c4',rfl⟩:=hO4.form
 obtain⟨A5',c5',rfl⟩:=hO5.form
 refine⟨_,hN,?_⟩
 have hIr:RtZ (gM z.c z.c Sx.ui):=Xs hD.ui hzc hzc
 have hDr:RtZ (gM z.c b.c Sx.d):=Xs hD.d hzc hbc
 have hIb:BdZ (K2+1) (gM z.c z.c Sx.ui):=YG hD.ui hbS.ui hzc hzc
 have hDb:BdZ (K2+1) (gM z.c b.c Sx.d):=YG hD.d hbS.d hzc hbc
 have hO2z:OwnZ N2 (.slice A2' (z.c*z.c) c2') (gM z.c z.c Sx.ui).e.length (gM z.c z.c Sx.ui).e:=by rw[show (gM z.c z.c Sx.ui).e.length=z.c*z.c from YW hD.ui];exact hO2
 unfold smC
 repeat' first|apply jS|apply jO|apply jN|refine Q3 ?_|refine Q7 ?_|refine Q2 ?_|refine Qc fun _=>?_|refine Q2 ?_|apply jT
 rename_i b9
 refine XD 0 rfl eqq rfl rfl rfl rfl rfl rfl ?_
 skip
 refine Qd (A:=[_,_,_,_,_,_,_]) (B:=(N1++(N2++(N3++(N4++N5))))++(Nx++[])) rfl pqq rfl eqq rfl (fun w hk hs=>Qjq (K+1) (K2+1) w _ _ z (gM z.c z.c Sx.ui) hz hIr rfl oq hbz hIb (hv0.mono hk) ⟨_,rfl,hO2z.rd.at hk hs (by simp only[List.cons_append,List.nil_append,List.append_assoc,List.append_nil,List.set_cons_zero];exact HSub.skip (HSub.skip (HSub.skip (HSub.skip (HSub.skip (HSub.skip (HSub.skip (Qj Qv))))))))⟩) fun w v w' _ _ _ hR=>?_
 obtain⟨Nb,Vb,rfl,hNb,hOb⟩:=hR
 obtain⟨Eb,rfl,hOb⟩:=hOb
 obtain⟨Ab,cb,rfl⟩:=hOb.form
 refine⟨Nb,hNb,?_⟩
 repeat' first|apply jS|apply jO|apply jN|refine Q1 ?_|refine Q3 ?_|refine Q0 ?_|refine Qn (h:=?_)|refine Q2 ?_|refine Qc fun _=>?_|refine Q2 ?_|apply jT
 rename_i b10 b12
 refine XD 2 rfl eqq rfl rfl rfl rfl rfl rfl ?_
 skip
 refine Qd (A:=[_,_,_,_,_,_,_,_,_]) (B:=Nb++((N1++(N2++(N3++(N4++N5))))++(Nx++[]))) rfl pqq rfl eqq rfl (fun w hk _=>Q8q w z.c b.c (z.c*b.c) c3' A3') fun w v w' _ _ _ hR=>?_
 obtain⟨bx,rfl,hNx'⟩:=hR
 refine⟨_,hNx',?_⟩
 obtain⟨be,hbe,hA3⟩:=Qj7 hO3 bx
 repeat' first|apply jN|apply jT|apply jB
 refine Q64 (od:=[⟨1,0,[0,1,2,3,4,5,6,7,8,9,10,11,12,13,14,15,16,18,19,17,20,21],[]⟩,⟨24,2,[],[]⟩,⟨27,2,[],[]⟩]) _ rfl mixed rfl rfl (enters_of Tryz.func114 (by kernel_rfl) rfl) (Q0e hDr hA3)
  (fun pre H'=>∃ vt Nt vc Nc,H'=[(bx,.cells #[nv z.c,nv b.c,.slice A3' (z.c*b.c) c3'] 26 (0,0)),(b12,.cells #[vc] 48 (0,0)),(b10,.cells #[nv z.r,nv z.c,.slice Ab (mulZ z (gM z.c z.c Sx.ui)).e.length cb] 26 (0,0)),(b6,.cells #[iv 0,iv 0,.slice none 0 0] 26 (0,0)),(b5,.cells #[nv (freN (gM z.c b.c Sx.d) pre)] 3 (0,0)),(b4,.cells #[vt] 24 (0,0)),(b2,.cells #[nv z.r,nv z.c,.slice A0 z.e.length c0] 26 (0,0))]++(Nt++(Nc++(Nb++N3)))∧OwnZ Nt vt (torL (gM z.c b.c Sx.d) pre).length (torL (gM z.c b.c Sx.d) pre)∧OwnI Nc vc (colQ (gM z.c b.c Sx.d) pre).length (colQ (gM z.c b.c Sx.d) pre))
  (fun _ _=>False)
  (by rintro k _ ⟨vt,Nt,vc,Nc,rfl,_⟩;exact List.mem_cons_self) (fun _ _ h=>h.elim)
  (fun q hq => by
   rcases List.mem_cons.1 hq with rfl|hq
   ·exact .inr ⟨_,fun k H' h=>by obtain⟨vt,Nt,vc,Nc,rfl,_⟩:=h;exact List.mem_cons_self,fun k H' h=>h.elim⟩
   ·cases List.mem_singleton.1 hq
    rcases hbe with rfl|⟨o,ho⟩
    ·exact .inr ⟨_,fun k H' h=>by obtain⟨vt,Nt,vc,Nc,rfl,_⟩:=h;exact List.mem_cons_self,fun k H' h=>h.elim⟩
    ·exact .inr ⟨o,fun k H' h=>by obtain⟨vt,Nt,vc,Nc,rfl,_⟩:=h;simp[ho],fun k H' h=>h.elim⟩)
  (by rintro k _ ⟨vt,Nt,vc,Nc,rfl,hOt,hOc⟩;exact Cells.cons (Cells.cons (Cells.cons (Cells.cons (Cells.cons (Cells.cons (Cells.cons (hOt.cells.app ((OwnRow.cells' hOc).app (hOb.cells.app hO3.cells)))))))))) _ ⟨.slice none 0 0,[],.slice none 0 0,[],rfl,OwnZ.nil,OwnI.nil⟩ ?_
  (fun W hk hs => ⟨hs.blk _ List.mem_cons_self, (OwnZ.rd (c := ⟨Tryz.prog, 117, w0, [], by simp⟩) hO3).at hk hs (HSub.skip (HSub.skip (HSub.skip (HSub.skip (HSub.skip (HSub.skip (HSub.skip (by show HSub N3 (Nb ++ N3); exact Qj (HSub.refl _))))))))), by
   rcases hbe with rfl|⟨o,ho⟩
   ·exact Q2u (hs.blk _ List.mem_cons_self)
   ·exact Q2u (hs.blk (be,o) (by simp[ho]))⟩)
  (fun i b=>[(13,nv i),(14,.pointer (some ⟨b,0,none⟩)),(12,.pointer (some ⟨b12,0,none⟩)),(5,.pointer (some ⟨b5,0,none⟩)),(4,.pointer (some ⟨b4,0,none⟩))])
  (fun i=>some (.cells #[.bool (wz (diaR (gM z.c b.c Sx.d) i)).1,sv (wz (diaR (gM z.c b.c Sx.d) i)).2] 35 (0,0))) rfl rfl (by kernel_rfl) (by kernel_rfl) rfl (by kernel_rfl) (fun _ _ h=>h) (fun _ _ h=>h) ?_ ?_ ?_ (fun D k H' h _=>h.elim)
 ·exact HSub.at 9 rfl (HSub.at 0 rfl (HSub.at 0 rfl (HSub.at 2 rfl (HSub.at 2 rfl (HSub.at 2 rfl (HSub.at 3 rfl (HSub.skip (HSub.skip (HSub.skip (by
   show HSub (Nb++N3) (Nb++((N1++(N2++(N3++(N4++N5))))++(Nx++[])))
   simp only[List.append_assoc]
   exact ZO (Qj (Qj Qv))))))))))))
 ·intro l i W hW
  simp only[toB,textOps,toSOp,kindAt,kindOf,odAt,sopsAt,ordOf,exH,List.nil_append,List.cons_append]
  repeat' first|apply jS|apply jO|apply jN|refine Q0 ?_|refine Q2 ?_|refine Qc fun _=>?_|refine Q2 ?_|apply jT
  exact W5 0 rfl rfl rfl cqq
 ·rintro l i pre bd _ X W1 hM' hi hpl ⟨vt,Nt,vc,Nc,rfl,hOt,hOc⟩ hX hl hln hkb hge
  have hdb:(diaR (gM z.c b.c Sx.d) i).natAbs<256 ^ (K2+1):=by
   unfold diaR
   split
   ·exact hDb.at i i
   ·exact pos256 _
  have hpz:pre.length<z.c:=hpl
  have hfl:=Qem (gM z.c b.c Sx.d) pre
  have htl:=Qk4 (gM z.c b.c Sx.d) pre
  have hcl:=Qf3 (gM z.c b.c Sx.d) pre
  obtain⟨At,ct,rfl⟩:=hOt.form
  obtain⟨Ac,cc,rfl⟩:=hOc.form
  rcases hX with rfl|⟨rfl,hnb,o,ho,hmem⟩
  ·simp only[toB,textOps,toSOp,kindAt,kindOf,odAt,sopsAt,ordOf,exH,List.nil_append,List.cons_append]
   repeat' first|apply jS|apply jO|refine Q7 ?_|apply jB
   refine Q6 pqq rfl eqq rfl (fun w _ _=>Q0j w _ (diaR (gM z.c b.c Sx.d) i) (K2+1) (Qf hdb) oq) fun w v w' _ _ _ hR=>?_
   subst hR
   by_cases hdz:diaR (gM z.c b.c Sx.d) i=0
   ·have hn1:¬1<diaR (gM z.c b.c Sx.d) i:=by omega
    rw[decide_eq_true hdz]
    repeat' first|apply jO|apply jN|apply jT|refine Q1 ?_|refine Q0 ?_|refine Qb ?_|refine Qg ?_|refine QA (h:=fun _=>?_)|refine Zg (k:=_) (h:=?_)|refine Q8 rfl ?_|apply jW
    rename_i b80
    refine Q0c (A:=_::_::_::_::_::_::_::_::_::Nt) (B:=Nb++N3) hOc (Q3z b80 _).rd (HSub.at 0 rfl (HSub.nil _)) rfl pqq rfl rfl rfl rfl oq (fun v' N' hO'=>?_)
    rw[XI (.inl hdz),show (colQ (gM z.c b.c Sx.d) pre).length+1=(colQ (gM z.c b.c Sx.d) (pre++[i])).length by rw[← XI (.inl hdz)];simp]at hO'
    obtain⟨A9,c9,rfl⟩:=OwnI.form hO'
    repeat' first|apply jN|refine Zg (k:=_) (h:=?_)|apply jW
    rw[XN hn1]at hOt
    have e5:=Qen (pre:=pre) hdz
    have e4:=XN (pre:=pre) hn1
    exact Zl ⟨_,_,_,N',by rw[← e5, ← e4];rfl,hOt,hO'⟩ (Cells.cons (Cells.cons (Cells.cons (Cells.cons (Cells.cons (Cells.cons (Cells.cons (hOt.cells.app ((OwnRow.cells' hO').app (hOb.cells.app hO3.cells)))))))))) (HSub.skip (HSub.skip (HSub.refl _)))
   ·rw[decide_eq_false hdz]
    by_cases hd1:1<diaR (gM z.c b.c Sx.d) i
    ·have hs1:(diaR (gM z.c b.c Sx.d) i-1).sign=1:=Int.sign_eq_one_of_pos oq
     repeat' first|apply jS|apply jD|apply jN|apply jT|refine Q0 ?_|refine Q7 ?_|refine Q4 rfl ?_
     refine Q6 pqq rfl eqq rfl (fun w _ _=>XJ w 1 oq oq) fun w v w' _ _ _ hR=>?_
     subst hR
     skip
     refine Q6 pqq rfl eqq rfl (fun w _ _=>Qii w _ _ (diaR (gM z.c b.c Sx.d) i) 1 (K2+1) (Qf hdb) (Qf (Y2 K2)) oq) fun w v w' _ _ _ hR=>?_
     rw[hs1]at hR
     subst hR
     repeat' first|apply jO|apply jN|apply jT|refine Q0 ?_|refine Qb ?_|refine Q7 ?_|(refine Z3 (h1:=?_) (h2:=?_)<;>intro hc<;>try (exfalso;omega))|refine Q8 rfl ?_
     refine Yq (sz:=2) (vs:=[Wv (diaR (gM z.c b.c Sx.d) i)]) (cl:=[.bool (wz (diaR (gM z.c b.c Sx.d) i)).1,sv (wz (diaR (gM z.c b.c Sx.d) i)).2]) rfl rfl (by first|rfl|trivial|exact⟨rfl,rfl⟩) rfl rfl (fun v hv=>by
      cases List.mem_singleton.1 hv;rfl) rfl dq dq (fun b76=>?_)
     have h1:=Q1i b76 (diaR (gM z.c b.c Sx.d) i)
     skip
     refine ZC (A:=_::_::_::_::_::_::_::_::[_]) (B:=Nc++(Nb++N3)) hOt h1.rd (HSub.at 0 rfl (HSub.nil _)) rfl pqq rfl rfl rfl rfl oq (fun vt' Nt' hOt'=>?_)
     rw[Q4q hd1,show (torL (gM z.c b.c Sx.d) pre).length+1=(torL (gM z.c b.c Sx.d) (pre++[i])).length by rw[← Q4q hd1];simp]at hOt'
     obtain⟨A8,c8,rfl⟩:=OwnZ.form hOt'
     repeat' first|apply jO|apply jN|apply jT|refine Q1 ?_|refine Qb ?_|refine QA (h:=fun _=>?_)|refine Zg (k:=_) (h:=?_)|apply jW
     rename_i b80
     refine Q0c (A:=_::_::_::_::_::_::_::_::_::_::Nt') (B:=Nb++N3) hOc (Q3z b80 _).rd (HSub.at 0 rfl (HSub.nil _)) rfl pqq rfl rfl rfl rfl oq (fun v' N' hO'=>?_)
     rw[XI (.inr hd1),show (colQ (gM z.c b.c Sx.d) pre).length+1=(colQ (gM z.c b.c Sx.d) (pre++[i])).length by rw[← XI (.inr hd1)];simp]at hO'
     obtain⟨A9,c9,rfl⟩:=OwnI.form hO'
     repeat' first|apply jN|refine Zg (k:=_) (h:=?_)|apply jW
     have e5:=Q1l (pre:=pre) hdz
     exact Zl ⟨_,_,_,N',by rw[← e5];rfl,hOt',hO'⟩ (Cells.cons (Cells.cons (Cells.cons (Cells.cons (Cells.cons (Cells.cons (Cells.cons (hOt'.cells.app ((OwnRow.cells' hO').app (hOb.cells.app hO3.cells)))))))))) (HSub.skip (HSub.skip (HSub.skip (HSub.refl _))))
    ·have hs1:(diaR (gM z.c b.c Sx.d) i-1).sign≤0:=by
      rcases(show diaR (gM z.c b.c Sx.d) i-1=0∨diaR (gM z.c b.c Sx.d) i-1<0 by omega)with h|h
      ·rw[h];decide
      ·rw[Int.sign_eq_neg_one_of_neg h];decide
     have hc1:¬(diaR (gM z.c b.c Sx.d) i=0∨1<diaR (gM z.c b.c Sx.d) i):=by omega
     repeat' first|apply jS|apply jD|apply jN|apply jT|refine Q0 ?_|refine Q7 ?_|refine Q4 rfl ?_
     refine Q6 pqq rfl eqq rfl (fun w _ _=>XJ w 1 oq oq) fun w v w' _ _ _ hR=>?_
     subst hR
     skip
     refine Q6 pqq rfl eqq rfl (fun w _ _=>Qii w _ _ (diaR (gM z.c b.c Sx.d) i) 1 (K2+1) (Qf hdb) (Qf (Y2 K2)) oq) fun w v w' _ _ _ hR=>?_
     subst hR
     repeat' first|apply jN|apply jT|refine Q0 ?_|(refine Z3 (h1:=?_) (h2:=?_)<;>intro hc<;>try (exfalso;omega))|apply jU|apply jE|refine Q4 rfl ?_|refine Qe ?_|refine Xe rfl ?_
     all_goals first
      | (exfalso;omega)
      | skip
     have e5:=Q1l (pre:=pre) hdz
     have e4:=XN (pre:=pre) hd1
     have e12:=Qao (pre:=pre) hc1
     rw[e4]at hOt
     rw[e12]at hOc
     exact Zl ⟨_,_,_,_,by rw[← e5, ← e4, ← e12],hOt,hOc⟩ (Cells.cons (Cells.cons (Cells.cons (Cells.cons (Cells.cons (Cells.cons (Cells.cons (hOt.cells.app ((OwnRow.cells' hOc).app (hOb.cells.app hO3.cells)))))))))) (HSub.skip (HSub.refl _))
  ·cases ho
   have hNt:Nt=[(bd,(.cells #[.bool (wz (diaR (gM z.c b.c Sx.d) i)).1,sv (wz (diaR (gM z.c b.c Sx.d) i)).2] 35 (0,0)))]:=by
    rcases List.mem_append.1 hmem with h|h
    ·exact absurd (List.mem_map_of_mem (f:=(·.1)) h) (fun h'=>hnb (by
      show bd∈[bx,b12,b10,b6,b5,b4,b2]++keys (Nb++N3)
      exact List.mem_append_left _ h'))
    ·rcases List.mem_append.1 h with h|h
     ·exact(Q9z hOt h).1
     ·rcases List.mem_append.1 h with h|h
      ·obtain⟨_,cur,hcur⟩:=Q9z hOc h
       simp at hcur
      ·refine absurd (List.mem_map_of_mem (f:=(·.1)) h) (fun h'=>hnb ?_)
       refine List.mem_cons_of_mem _ (List.mem_cons_of_mem _ (List.mem_cons_of_mem _ (List.mem_cons_of_mem _ (List.mem_cons_of_mem _ (List.mem_cons_of_mem _ (List.mem_cons_of_mem _ ?_))))))
       exact h'
   subst hNt
   simp only[toB,textOps,toSOp,kindAt,kindOf,odAt,sopsAt,ordOf,exH,List.nil_append,List.cons_append]
   repeat' first|apply jS|apply jO|refine Q7 ?_|apply jB
   refine Q6 pqq rfl eqq rfl (fun w _ _=>Q0j w _ (diaR (gM z.c b.c Sx.d) i) (K2+1) (Qf hdb) oq) fun w v w' _ _ _ hR=>?_
   subst hR
   by_cases hdz:diaR (gM z.c b.c Sx.d) i=0
   ·have hn1:¬1<diaR (gM z.c b.c Sx.d) i:=by omega
    rw[decide_eq_true hdz]
    repeat' first|apply jO|apply jN|apply jT|refine Q1 ?_|refine Q0 ?_|refine Qb ?_|refine Qg ?_|refine QA (h:=fun _=>?_)|refine Zg (k:=_) (h:=?_)|refine Q8 rfl ?_|apply jW
    rename_i b80
    refine Q0c (A:=_::_::_::_::_::_::_::_::[_]) (B:=Nb++N3) hOc (Q3z b80 _).rd (HSub.at 0 rfl (HSub.nil _)) rfl pqq rfl rfl rfl rfl oq (fun v' N' hO'=>?_)
    rw[XI (.inl hdz),show (colQ (gM z.c b.c Sx.d) pre).length+1=(colQ (gM z.c b.c Sx.d) (pre++[i])).length by rw[← XI (.inl hdz)];simp]at hO'
    obtain⟨A9,c9,rfl⟩:=OwnI.form hO'
    repeat' first|apply jN|refine Zg (k:=_) (h:=?_)|apply jW
    rw[XN hn1]at hOt
    have e5:=Qen (pre:=pre) hdz
    have e4:=XN (pre:=pre) hn1
    exact Zl ⟨_,_,_,N',by rw[← e5, ← e4];rfl,hOt,hO'⟩ (Cells.cons (Cells.cons (Cells.cons (Cells.cons (Cells.cons (Cells.cons (Cells.cons (hOt.cells.app ((OwnRow.cells' hO').app (hOb.cells.app hO3.cells)))))))))) (HSub.skip (HSub.refl _))
   ·rw[decide_eq_false hdz]
    by_cases hd1:1<diaR (gM z.c b.c Sx.d) i
    ·have hs1:(diaR (gM z.c b.c Sx.d) i-1).sign=1:=Int.sign_eq_one_of_pos oq
     repeat' first|apply jS|apply jD|apply jN|apply jT|refine Q0 ?_|refine Q7 ?_|refine Q4 rfl ?_
     refine Q6 pqq rfl eqq rfl (fun w _ _=>XJ w 1 oq oq) fun w v w' _ _ _ hR=>?_
     subst hR
     skip
     refine Q6 pqq rfl eqq rfl (fun w _ _=>Qii w _ _ (diaR (gM z.c b.c Sx.d) i) 1 (K2+1) (Qf hdb) (Qf (Y2 K2)) oq) fun w v w' _ _ _ hR=>?_
     rw[hs1]at hR
     subst hR
     repeat' first|apply jO|apply jN|apply jT|refine Q0 ?_|refine Qb ?_|refine Q7 ?_|(refine Z3 (h1:=?_) (h2:=?_)<;>intro hc<;>try (exfalso;omega))|refine Q8 rfl ?_
     refine Yq (sz:=2) (vs:=[Wv (diaR (gM z.c b.c Sx.d) i)]) (cl:=[.bool (wz (diaR (gM z.c b.c Sx.d) i)).1,sv (wz (diaR (gM z.c b.c Sx.d) i)).2]) rfl rfl (by first|rfl|trivial|exact⟨rfl,rfl⟩) rfl rfl (fun v hv=>by
      cases List.mem_singleton.1 hv;rfl) rfl dq dq (fun b76=>?_)
     have h1:=Q1i b76 (diaR (gM z.c b.c Sx.d) i)
     skip
     refine ZC (A:=_::_::_::_::_::_::_::[_]) (B:=Nc++(Nb++N3)) hOt h1.rd (HSub.at 0 rfl (HSub.nil _)) rfl pqq rfl rfl rfl rfl oq (fun vt' Nt' hOt'=>?_)
     rw[Q4q hd1,show (torL (gM z.c b.c Sx.d) pre).length+1=(torL (gM z.c b.c Sx.d) (pre++[i])).length by rw[← Q4q hd1];simp]at hOt'
     obtain⟨A8,c8,rfl⟩:=OwnZ.form hOt'
     repeat' first|apply jO|apply jN|apply jT|refine Q1 ?_|refine Qb ?_|refine QA (h:=fun _=>?_)|refine Zg (k:=_) (h:=?_)|apply jW
     rename_i b80
     refine Q0c (A:=_::_::_::_::_::_::_::_::_::Nt') (B:=Nb++N3) hOc (Q3z b80 _).rd (HSub.at 0 rfl (HSub.nil _)) rfl pqq rfl rfl rfl rfl oq (fun v' N' hO'=>?_)
     rw[XI (.inr hd1),show (colQ (gM z.c b.c Sx.d) pre).length+1=(colQ (gM z.c b.c Sx.d) (pre++[i])).length by rw[← XI (.inr hd1)];simp]at hO'
     obtain⟨A9,c9,rfl⟩:=OwnI.form hO'
     repeat' first|apply jN|refine Zg (k:=_) (h:=?_)|apply jW
     have e5:=Q1l (pre:=pre) hdz
     exact Zl ⟨_,_,_,N',by rw[← e5];rfl,hOt',hO'⟩ (Cells.cons (Cells.cons (Cells.cons (Cells.cons (Cells.cons (Cells.cons (Cells.cons (hOt'.cells.app ((OwnRow.cells' hO').app (hOb.cells.app hO3.cells)))))))))) (HSub.skip (HSub.skip (HSub.refl _)))
    ·have hs1:(diaR (gM z.c b.c Sx.d) i-1).sign≤0:=by
      rcases(show diaR (gM z.c b.c Sx.d) i-1=0∨diaR (gM z.c b.c Sx.d) i-1<0 by omega)with h|h
      ·rw[h];decide
      ·rw[Int.sign_eq_neg_one_of_neg h];decide
     have hc1:¬(diaR (gM z.c b.c Sx.d) i=0∨1<diaR (gM z.c b.c Sx.d) i):=by omega
     repeat' first|apply jS|apply jD|apply jN|apply jT|refine Q0 ?_|refine Q7 ?_|refine Q4 rfl ?_
     refine Q6 pqq rfl eqq rfl (fun w _ _=>XJ w 1 oq oq) fun w v w' _ _ _ hR=>?_
     subst hR
     skip
     refine Q6 pqq rfl eqq rfl (fun w _ _=>Qii w _ _ (diaR (gM z.c b.c Sx.d) i) 1 (K2+1) (Qf hdb) (Qf (Y2 K2)) oq) fun w v w' _ _ _ hR=>?_
     subst hR
     repeat' first|apply jN|apply jT|refine Q0 ?_|(refine Z3 (h1:=?_) (h2:=?_)<;>intro hc<;>try (exfalso;omega))|apply jU|apply jE|refine Q4 rfl ?_|refine Qe ?_|refine Xe rfl ?_
     all_goals first
      | (exfalso;omega)
      | skip
     have e5:=Q1l (pre:=pre) hdz
     have e4:=XN (pre:=pre) hd1
     have e12:=Qao (pre:=pre) hc1
     rw[e4]at hOt
     rw[e12]at hOc
     exact Zl ⟨_,_,_,_,by rw[← e5, ← e4, ← e12],hOt,hOc⟩ (Cells.cons (Cells.cons (Cells.cons (Cells.cons (Cells.cons (Cells.cons (Cells.cons (hOt.cells.app ((OwnRow.cells' hOc).app (hOb.cells.app hO3.cells)))))))))) (HSub.refl _)
 ·rintro D _ ⟨vt,Nt,vc,Nc,rfl,hOt,hOc⟩ hDd
  obtain⟨At,ct,rfl⟩:=hOt.form
  obtain⟨Ac,cc,rfl⟩:=hOc.form
  have hrr:(gM z.c b.c Sx.d).r=z.c:=rfl
  rw[hrr]at hOt hOc ⊢
  have hcl:(colQ (gM z.c b.c Sx.d) (List.range z.c)).length≤z.c:=by have:=Qf3 (gM z.c b.c Sx.d) (List.range z.c);rwa [List.length_range]at this
  have hfl:freN (gM z.c b.c Sx.d) (List.range z.c)≤z.c:=by have:=Qem (gM z.c b.c Sx.d) (List.range z.c);rwa [List.length_range]at this
  generalize torL (gM z.c b.c Sx.d) (List.range z.c)=T at hOt ⊢
  generalize colQ (gM z.c b.c Sx.d) (List.range z.c)=C at hOc hcl ⊢
  generalize freN (gM z.c b.c Sx.d) (List.range z.c)=fr at hfl ⊢
  simp only[toS,textOps,toSOp,kindAt,kindOf,odAt,sopsAt,ordOf]
  repeat' first|apply jS|refine Q3 ?_|refine Qb ?_|refine Y5 (h:=?_)|apply jO
  refine Qd (A:=[_,_,_,_,_,_,_,_]) (B:=Nt++(Nc++(Nb++N3))) rfl pqq rfl eqq rfl (fun w hk hs=>Qau z.r C.length hzr oq w) fun w v w' _ _ _ hR=>?_
  obtain⟨Ng,Eg,hNg,rfl,hOg⟩:=hR
  obtain⟨Ag,cg,rfl⟩:=hOg.form
  refine⟨Ng,hNg,?_⟩
  have hRc:RdI ⟨Tryz.prog,117,w0,[],by simp⟩ Nc (.slice Ac C.length cc) C.length C:=hOc.rd
  repeat' first|apply jS|apply jO|apply jN|apply jT|refine Q1 ?_|refine Qb ?_|refine Y5 (h:=?_)|refine Q2 ?_|refine Q2 ?_|apply jB
  refine Qi (ι:=Nat × SHeap × List Int) ⟨fun q=>[(89,nv q.1),(88,nv C.length),(87,.slice Ac C.length cc),(12,.pointer (some ⟨b12,0,none⟩)),(10,.pointer (some ⟨b10,0,none⟩)),(7,.bool true),(6,.pointer (some ⟨b6,0,none⟩)),(5,.pointer (some ⟨b5,0,none⟩)),(4,.pointer (some ⟨b4,0,none⟩)),(2,.pointer (some ⟨b2,0,none⟩))],fun q=>[(D,.deferred (some [])),(bx,.cells #[nv z.c,nv b.c,.slice A3' (z.c*b.c) c3'] 26 (0,0)),(b12,.cells #[.slice Ac C.length cc] 48 (0,0)),(b10,.cells #[nv z.r,nv z.c,.slice Ab (mulZ z (gM z.c z.c Sx.ui)).e.length cb] 26 (0,0)),(b6,.cells #[nv z.r,nv C.length,.slice Ag (z.r*C.length) cg] 26 (0,0)),(b5,.cells #[nv fr] 3 (0,0)),(b4,.cells #[.slice At T.length ct] 24 (0,0)),(b2,.cells #[nv z.r,nv z.c,.slice A0 z.e.length c0] 26 (0,0))]++(q.2.1++(Nt++(Nc++(Nb++N3)))),
   fun q=>q.1≤C.length∧OwnZ q.2.1 (.slice Ag (z.r*C.length) cg) (z.r*C.length) q.2.2,fun q=>C.length-q.1⟩ (0,Ng,_) ⟨Nat.zero_le _,hOg⟩ cqq (HSub.refl _) (fun q hq=>?_)
  clear hOg
  obtain⟨j,Ng,gs⟩:=q
  obtain⟨hjC,hOg⟩:=hq
  dsimp only at hjC hOg ⊢
  by_cases hj:j<C.length
  ·repeat' first|apply jS|apply jO|apply jN|apply jT|refine Q1 ?_|refine Q3 ?_|refine Q0 ?_|refine Qb ?_|refine Q6h (h:=?_)|refine Qdj (h:=?_)|(refine Qk (h1:=?_) (h2:=?_)<;>intro hc<;>try (exfalso;omega))|apply jK|refine Q8 rfl ?_|apply jB
   refine Qi (ι:=Nat × SHeap × List Int) ⟨fun q=>[(96,nv q.1),(95,nv z.r),(16,iv (C.getD j 0)),(15,nv j),(89,nv j),(88,nv C.length),(87,.slice Ac C.length cc),(12,.pointer (some ⟨b12,0,none⟩)),(10,.pointer (some ⟨b10,0,none⟩)),(7,.bool true),(6,.pointer (some ⟨b6,0,none⟩)),(5,.pointer (some ⟨b5,0,none⟩)),(4,.pointer (some ⟨b4,0,none⟩)),(2,.pointer (some ⟨b2,0,none⟩))],fun q=>[(D,.deferred (some [])),(bx,.cells #[nv z.c,nv b.c,.slice A3' (z.c*b.c) c3'] 26 (0,0)),(b12,.cells #[.slice Ac C.length cc] 48 (0,0)),(b10,.cells #[nv z.r,nv z.c,.slice Ab (mulZ z (gM z.c z.c Sx.ui)).e.length cb] 26 (0,0)),(b6,.cells #[nv z.r,nv C.length,.slice Ag (z.r*C.length) cg] 26 (0,0)),(b5,.cells #[nv fr] 3 (0,0)),(b4,.cells #[.slice At T.length ct] 24 (0,0)),(b2,.cells #[nv z.r,nv z.c,.slice A0 z.e.length c0] 26 (0,0))]++(q.2.1++(Nt++(Nc++(Nb++N3)))),
    fun q=>q.1≤z.r∧OwnZ q.2.1 (.slice Ag (z.r*C.length) cg) (z.r*C.length) q.2.2,fun q=>z.r-q.1⟩ (0,Ng,gs) ⟨Nat.zero_le _,hOg⟩ cqq (HSub.refl _) (fun q hq=>?_)
   clear hOg
   obtain⟨i,Ng,gs⟩:=q
   obtain⟨hir,hOg⟩:=hq
   dsimp only at hir hOg ⊢
   have hic:i*C.length≤40000:=Nat.mul_le_mul (show i≤200 by omega) (show C.length≤200 by omega)
   by_cases hi:i<z.r
   ·have hlt:=Q1t hi hj
    have hic2:i*C.length+j≤40200:=by omega
    repeat' first|apply jS|apply jO|apply jN|apply jT|refine Q1 ?_|refine Q0 ?_|(refine Qk (h1:=?_) (h2:=?_)<;>intro hc<;>try (exfalso;omega))|apply jK|refine Q8 rfl ?_|apply jB
    refine QX [(b6,.cells #[nv z.r,nv C.length,.slice Ag (z.r*C.length) cg] 26 (0,0)),(b10,.cells #[nv z.r,nv z.c,.slice Ab (mulZ z (gM z.c z.c Sx.ui)).e.length cb] 26 (0,0))] (HSub.at 4 rfl (HSub.at 3 rfl (HSub.nil _))) ?_
    repeat' first|refine Q1 ?_|refine Q3 ?_|refine Qb ?_|refine Q7 ?_|refine Z6 (h:=?_)|refine Zy (h:=?_)|fail
    refine Q6 pqq rfl eqq rfl (fun w hk hs=>c_At w _ (mulZ z (gM z.c z.c Sx.ui)) (i:Int) (C.getD j 0) (YN hzr hzc) ⟨_,rfl,hOb.rd.at hk hs (by
     simp only[List.cons_append,List.nil_append]
     exact HSub.skip (HSub.skip (HSub.skip (HSub.skip (HSub.skip (HSub.skip (HSub.skip (HSub.skip (Qj (Qj (Qj Qv)))))))))))⟩) fun w v w' _ _ _ hR=>?_
    subst hR
    repeat' first|refine Ze (h:=?_)|fail
    refine Q13 (A:=[_,_,_,_,_,_,_,_]) hOg rfl rfl pqq rfl rfl hlt (fun N' hO'=>?_)
    repeat' first|apply jO|apply jN|apply jT|refine Q1 ?_|refine Qg ?_|apply jW
    exact Qa (i+1,N',_) ⟨by dsimp only;omega,hO'⟩ dgq cqq (HSub.refl _)
   ·repeat' first|apply jS|apply jO|apply jN|apply jT|refine Q1 ?_|refine Qg ?_|(refine Qk (h1:=?_) (h2:=?_)<;>intro hc<;>try (exfalso;omega))|apply jU|apply jE|refine Q4 rfl ?_|apply jW|refine Qe ?_
    exact Qa (j+1,Ng,gs) ⟨by dsimp only;omega,hOg⟩ dgq cqq (HSub.refl _)
  ·repeat' first|apply jS|apply jO|apply jN|apply jT|(refine Qk (h1:=?_) (h2:=?_)<;>intro hc<;>try (exfalso;omega))|apply jU|apply jE|refine Q4 rfl ?_|refine Qe ?_
   refine QX [(b4,.cells #[.slice At T.length ct] 24 (0,0)),(b5,.cells #[nv fr] 3 (0,0)),(b6,.cells #[nv z.r,nv C.length,.slice Ag (z.r*C.length) cg] 26 (0,0))] (HSub.at 6 rfl (HSub.at 5 rfl (HSub.at 4 rfl (HSub.nil _)))) ?_
   repeat' first|refine Qb ?_|refine Q7 ?_|fail
   refine WB 6 rfl rfl rfl rfl rfl rfl Nat.one_pos (HSub.at 6 rfl (HSub.at 5 rfl (HSub.at 4 rfl (HSub.nil _)))) ?_
   refine WB 5 rfl rfl rfl rfl rfl rfl Nat.one_pos (HSub.at 6 rfl (HSub.at 5 rfl (HSub.at 4 rfl (HSub.nil _)))) ?_
   refine Zq 4 rfl rfl rfl rfl rfl rfl rfl (HSub.at 6 rfl (HSub.at 5 rfl (HSub.at 4 rfl (HSub.nil _)))) ?_
   repeat' first|apply jN|apply jT|refine Q0 ?_|apply jR
   refine Xc 0 rfl hDd rfl ?_
   refine Yc [.slice At T.length ct,nv fr,.agg #[nv z.r,nv C.length,.slice Ag (z.r*C.length) cg],.bool true] (W6 5 rfl rfl rfl (W6 4 rfl rfl rfl (Zn 3 rfl rfl rfl (JR.tmp rfl JR.nil)))) (fun a' w' st=>⟨st.kp,Nt,At,ct,_,_,Ng,gs,st.newOf rfl ?_,hOt,rfl,hOg,hcl⟩)
   exact HSub.skip (HSub.skip (HSub.skip (HSub.skip (HSub.skip (HSub.skip (HSub.skip (by show HSub (Ng++Nt) (Ng++(Nt++(Nc++(Nb++N3))));exact ZO Qv)))))))

theorem Qe6 {A B:SHeap} {w w':World} (h:New (A++B) w w'):New B w w' :=
 ⟨by have:=h.nd;rw[List.map_append,List.nodup_append]at this;exact this.2.1,fun p hp=>h.ge p (List.mem_append_right _ hp),fun p hp=>h.blk p (List.mem_append_right _ hp)⟩
theorem Qjp (K fc f L K2 fc2 f2:Nat) (w0:World) (v u:Value) (z b:ZM) (Sz Sx:Sm) (hz:RtZ z) (hb:RtZ b) (hzb:b.r=z.r) (hv:IsM w0 v z) (hu:IsM w0 u b) (hK:K+1+K+1+L+2≤3500000000000) (hK2:K+K2+3≤1750000000000) (hbz:BdZ (K+1) z) (hbb:BdZ L b) (hrk:(facP Sz.d (min z.r z.c)).length=z.c)
  (hf:formF (K+1) fc f z.r z.c (min z.r z.c) 0 (startS z.r z.c (rowsOf z))=some Sz) (hw:∀ j,j<b.c→wrongF (gM z.r z.c Sz.d) (appL (gM z.r z.r Sz.u) (colL b j))=none)
  (hbx:BdZ (K2+1) (corZ Sz z b)) (hf2:formF (K2+1) fc2 f2 z.c b.c (min z.c b.c) 0 (startS z.c b.c (rowsOf (corZ Sz z b)))=some Sx) :
  Calls Tryz.prog 23 #[v,u] w0 (Ret fun v w'=>Kp [] w0 w'∧∃ N A c Ag cg,New N w0 w'∧OwnZ N (.slice A (torL (gM z.c b.c Sx.d) (List.range z.c)).length c) (torL (gM z.c b.c Sx.d) (List.range z.c)).length (torL (gM z.c b.c Sx.d) (List.range z.c))∧v=.tuple #[.slice A (torL (gM z.c b.c Sx.d) (List.range z.c)).length c,nv (freN (gM z.c b.c Sx.d) (List.range z.c)),.agg #[nv z.r,nv (colQ (gM z.c b.c Sx.d) (List.range z.c)).length,.slice Ag (z.r*(colQ (gM z.c b.c Sx.d) (List.range z.c)).length) cg],.bool true]) :=
 QC (Qft K fc f L K2 fc2 f2 w0 v u z b Sz Sx hz hb hzb hv hu hK hK2 hbz hbb hrk hf hw hbx hf2) fun v w' h=>⟨h.1,by
  obtain⟨N,A,c,Ag,cg,Ng,gs,h1,h2,h3,h4,h5⟩:=h.2
  exact⟨N,A,c,Ag,cg,Qe6 h1,h2,h3⟩⟩

end Go.Proofs.YtljmapfihjkafaaGreatDoor

