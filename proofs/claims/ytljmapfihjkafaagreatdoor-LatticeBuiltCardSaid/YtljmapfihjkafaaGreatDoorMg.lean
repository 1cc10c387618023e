import Derived.Test.YtljmapfihjkafaaGreatDoorMf
import Derived.Test.YtljmapfihjkafaaGreatDoorMd
import Derived.KernelRfl
set_option maxHeartbeats 16000000
namespace Go.Proofs.YtljmapfihjkafaaGreatDoor
open Go Go.RowKit
set_option linter.unusedSimpArgs false
set_option linter.unusedVariables false
set_option linter.unusedSectionVars false

theorem Qd7 {m j:Nat} (h:m<65536 ^ (4-j)) (h0:0<m) (hj:j≤4):j<4∧m / 65536<65536 ^ (4-(j+1)):=by
 have hj4:j<4:=by
  refine Vg fun h1=>?_
  obtain rfl:j=4:=by omega
  simp at h
  omega
 refine⟨hj4,?_⟩
 rw[show 4-j=4-(j+1)+1 by omega,Va]at h
 exact Nat.div_lt_of_lt_mul (by rw[Vc];exact h)

theorem XF (w:World) (n:Int) (h1 : -9223372036854775808≤n) (h2:n<9223372036854775808) :
  Calls Tryz.prog 21 #[iv n] w (aP fun r w'=>Kp [] w w'∧r=Wv n):=by
 have hm:n.natAbs≤9223372036854775808:=by omega
 have hm2:n.natAbs<18446744073709551616:=by omega
 by_cases hn:n<0
 ·refine Q9 [] [] au [] Tryz.func21 rfl mixed (by kernel_rfl) Tryz.ntmps21 Tryz.results21 rfl ⟨by simp,by simp⟩ au ?_
  simp only[toS,Qd,Qt,Qk,Ql,ay,Qg,QA,aC]
  repeat' first|apply jS|apply jO|apply jN|refine Q1 ?_|refine Q0 ?_|refine Qc fun _=>?_|apply jT
  rename_i b2
  refine Qca (18446744073709551616-n.natAbs) rfl rfl rfl (by rw[IntKind.wrap_u64];omega) ?_
  repeat' first|apply jS|apply jO|apply jN|apply jT|refine Q1 ?_|refine Q0 ?_|(refine Qs (h1:=?_) (h2:=?_)<;>intro hc<;>try omega)|refine Q8 rfl ?_
  refine Qm7 rfl rfl rfl oq ?_
  rw[show (18446744073709551616-(18446744073709551616-n.natAbs)) % 18446744073709551616=n.natAbs by omega]
  repeat' first|apply jS|apply jN|apply jT|refine Q0 ?_|apply jB
  refine Qp (ι:=Nat × Value × aj × List Nat) ⟨fun z=>[(4,uv z.1),(3,z.2.1),(2,.pointer (some ⟨b2,0,none⟩)),(0,iv n)],fun z=>(b2,.cells #[.bool false,.string ⟨#[]⟩] 35)::(z.2.2.1++[]),
   fun z=>z.2.2.2.length≤4∧z.1<65536 ^ (4-z.2.2.2.length)∧z.1<18446744073709551616∧bP z.2.2.1 z.2.1 z.2.2.2.length z.2.2.2∧(∀ x∈z.2.2.2,x<aO)∧val aO z.2.2.2+aO ^ z.2.2.2.length*z.1=n.natAbs,fun z=>z.1⟩
   (n.natAbs,_,[],[]) ⟨V9 _,by show n.natAbs<65536 ^ 4;omega,hm2,bP.nil,fun _ h=>absurd h List.not_mem_nil,by simp[val]⟩ aF QK (fun z hz=>?_)
  obtain⟨m,vo,N,zs⟩:=z
  obtain⟨hl4,hmp,hm64,hO,hz,hval⟩:=hz
  dsimp only at hl4 hmp hm64 hO hz hval ⊢
  by_cases h0:0<m
  ·obtain⟨hj4,hmp'⟩:=Qd7 hmp h0 hl4
   repeat' first|apply jS|apply jO|apply jN|apply jT|refine Q1 ?_|(refine Zg (h1:=?_) (h2:=?_)<;>intro hc<;>try omega)|apply jK|refine Q8 rfl ?_|apply jB
   refine Qc4 (j:=65536) rfl rfl rfl rfl oq ?_
   refine Q28 (k':=.i64) ((m % 65536:Nat):Int) rfl rfl rfl (by rw[IntKind.wrap_i64];omega) ?_
   repeat' first|refine QG (h:=fun _=>?_)|fail
   rename_i c2
   refine ZD (A:=[_,_]) hO (Yn c2 1 [m % 65536] _ rfl rfl dq).rd Q6 rfl trivial rfl rfl rfl rfl oq (fun v' N' aU=>?_)
   repeat' first|apply jO|apply jN|refine Q1 ?_|refine Q0 ?_|apply jT
   refine Qc5 (j:=65536) rfl rfl rfl rfl oq ?_
   repeat' first|apply jN|refine Q0 ?_|apply jW
   refine Qa (m / 65536,v',N',zs++[m % 65536]) ⟨by simp only[Vk,Vs];omega,by simp only[Vk,Vs];exact hmp',by dsimp only;omega,by simp only[Vk,Vs];exact aU,Y1 hz (Nat.mod_lt _ dq),?_⟩ aY aF QK
   dsimp only
   rw[Yh,Vk,Vs,Va, ← hval,Nat.add_assoc,Vn, ← Vp,Nat.mod_add_div]
  ·repeat' first|apply jS|apply jO|apply jN|apply jT|refine Q1 ?_|(refine Qs (h1:=?_) (h2:=?_)<;>intro hc<;>try omega)|(refine Zg (h1:=?_) (h2:=?_)<;>intro hc<;>try omega)|apply jU|apply jE|refine Q4 rfl ?_|apply Qe
   refine Q5 trivial rfl rfl rfl (fun w hk hs=>YG w _ _ zs true (hO.rd.at hk hs Q6) hz oq) fun w v w' _ _ _ hR=>?_
   subst hR
   repeat' first|apply jN|apply jT|refine Q2 ?_|refine Q2 ?_|apply jR
   obtain rfl:m=0:=by omega
   rw[Nat.mul_zero,Vt]at hval
   exact QQ 0 rfl rfl rfl (fun a w' st=>⟨st.kp,by show Wv (bQ true (val aO zs))=_;rw[hval];congr 1;simp only[bQ,if_true,Bool.false_eq_true,if_false];omega⟩)
 ·refine Q9 [] [] au [] Tryz.func21 rfl mixed (by kernel_rfl) Tryz.ntmps21 Tryz.results21 rfl ⟨by simp,by simp⟩ au ?_
  simp only[toS,Qd,Qt,Qk,Ql,ay,Qg,QA,aC]
  repeat' first|apply jS|apply jO|apply jN|refine Q1 ?_|refine Q0 ?_|refine Qc fun _=>?_|apply jT
  rename_i b2
  refine Qca n.natAbs rfl rfl rfl (by rw[IntKind.wrap_u64];omega) ?_
  repeat' first|apply jS|apply jO|apply jN|apply jT|refine Q1 ?_|refine Q0 ?_|(refine Qs (h1:=?_) (h2:=?_)<;>intro hc<;>try omega)|apply jK|refine Q4 rfl ?_|apply jB
  refine Qp (ι:=Nat × Value × aj × List Nat) ⟨fun z=>[(4,uv z.1),(3,z.2.1),(2,.pointer (some ⟨b2,0,none⟩)),(0,iv n)],fun z=>(b2,.cells #[.bool false,.string ⟨#[]⟩] 35)::(z.2.2.1++[]),
   fun z=>z.2.2.2.length≤4∧z.1<65536 ^ (4-z.2.2.2.length)∧z.1<18446744073709551616∧bP z.2.2.1 z.2.1 z.2.2.2.length z.2.2.2∧(∀ x∈z.2.2.2,x<aO)∧val aO z.2.2.2+aO ^ z.2.2.2.length*z.1=n.natAbs,fun z=>z.1⟩
   (n.natAbs,_,[],[]) ⟨V9 _,by show n.natAbs<65536 ^ 4;omega,hm2,bP.nil,fun _ h=>absurd h List.not_mem_nil,by simp[val]⟩ aF QK (fun z hz=>?_)
  obtain⟨m,vo,N,zs⟩:=z
  obtain⟨hl4,hmp,hm64,hO,hz,hval⟩:=hz
  dsimp only at hl4 hmp hm64 hO hz hval ⊢
  by_cases h0:0<m
  ·obtain⟨hj4,hmp'⟩:=Qd7 hmp h0 hl4
   repeat' first|apply jS|apply jO|apply jN|apply jT|refine Q1 ?_|(refine Zg (h1:=?_) (h2:=?_)<;>intro hc<;>try omega)|apply jK|refine Q8 rfl ?_|apply jB
   refine Qc4 (j:=65536) rfl rfl rfl rfl oq ?_
   refine Q28 (k':=.i64) ((m % 65536:Nat):Int) rfl rfl rfl (by rw[IntKind.wrap_i64];omega) ?_
   repeat' first|refine QG (h:=fun _=>?_)|fail
   rename_i c2
   refine ZD (A:=[_,_]) hO (Yn c2 1 [m % 65536] _ rfl rfl dq).rd Q6 rfl trivial rfl rfl rfl rfl oq (fun v' N' aU=>?_)
   repeat' first|apply jO|apply jN|refine Q1 ?_|refine Q0 ?_|apply jT
   refine Qc5 (j:=65536) rfl rfl rfl rfl oq ?_
   repeat' first|apply jN|refine Q0 ?_|apply jW
   refine Qa (m / 65536,v',N',zs++[m % 65536]) ⟨by simp only[Vk,Vs];omega,by simp only[Vk,Vs];exact hmp',by dsimp only;omega,by simp only[Vk,Vs];exact aU,Y1 hz (Nat.mod_lt _ dq),?_⟩ aY aF QK
   dsimp only
   rw[Yh,Vk,Vs,Va, ← hval,Nat.add_assoc,Vn, ← Vp,Nat.mod_add_div]
  ·repeat' first|apply jS|apply jO|apply jN|apply jT|refine Q1 ?_|(refine Qs (h1:=?_) (h2:=?_)<;>intro hc<;>try omega)|(refine Zg (h1:=?_) (h2:=?_)<;>intro hc<;>try omega)|apply jU|apply jE|refine Q4 rfl ?_|apply Qe
   refine Q5 trivial rfl rfl rfl (fun w hk hs=>YG w _ _ zs false (hO.rd.at hk hs Q6) hz oq) fun w v w' _ _ _ hR=>?_
   subst hR
   repeat' first|apply jN|apply jT|refine Q2 ?_|refine Q2 ?_|apply jR
   obtain rfl:m=0:=by omega
   rw[Nat.mul_zero,Vt]at hval
   exact QQ 0 rfl rfl rfl (fun a w' st=>⟨st.kp,by show Wv (bQ false (val aO zs))=_;rw[hval];congr 1;simp only[bQ,if_true,Bool.false_eq_true,if_false];omega⟩)

end Go.Proofs.YtljmapfihjkafaaGreatDoor

namespace Go.Proofs.YtljmapfihjkafaaGreatDoor
open Go Go.RowKit Go.Shelf
set_option linter.unusedSimpArgs false
set_option linter.unusedVariables false
set_option linter.unusedSectionVars false

theorem Qez {P:Program} {ops:Array Oper} {Q:Exit→Act→World→Prop} {l m i:Nat} {K:Act→World→Prop} {a:Act} {w:World} (hQ:¬LetsOut Q) (hd:YW ops.toList=true) (h:wpOp P ops Q i K a w):wpOpIn (Fence.wide.inRound l) m P ops Q i K a w:=by
 unfold wpOp at h
 unfold wpOpIn
 cases ho:ops[i]? with
 | none=>rw[ho]at h;exact h
 | some o =>
  rw[ho]at h
  simp only at h ⊢
  split at h
  ·rename_i hw
   rw[if_pos hw]
   rcases h with h|⟨_,h⟩
   ·refine⟨fun f _=>trivial,?_⟩
    have hnd:∀ c,o.op≠.defer c:=fun c hc=>by
     have:∀ (os:List Oper),YW os=true→o∈os→False:=fun os=>by
      induction os with
      | nil=>intro _ h;cases h
      | cons x xs ih =>
       intro h1 h2
       simp only[YW,Bool.and_eq_true]at h1
       rcases List.mem_cons.1 h2 with rfl|h2
       ·rw[hc]at h1;exact absurd h1.1 au
       ·exact ih h1.2 h2
     exact this _ hd (Array.mem_toList_iff.2 (Array.mem_of_getElem? ho))
    rw[Oper.semAt_eq _ _ _ (fun c hc=>absurd hc (hnd c))]
    unfold Oper.wp at h
    exact Q8o h
   ·exact absurd h hQ
  ·rename_i hw
   rw[if_neg hw]
   exact⟨fun f _=>trivial,h⟩

theorem Q5q {P:Program} {ops:Array Oper} {Q:Exit→Act→World→Prop} {md:Region.Mode} {l m:Nat} (hQ:¬LetsOut Q) (hd:YW ops.toList=true):∀ (fuel:Nat) (listed:Array Bool) (a:Act) (w:World),wpAny P md ops Q fuel listed a w→wpAnyIn (Fence.wide.inRound l) m P md ops Q fuel listed a w
 | 0,_,_,_,h=>h
 | fuel+1,_,_,_,h=>⟨h.1,fun i hi=>Qez hQ hd (wpOp_mono (fun a' w' h'=>Q5q hQ hd fuel _ a' w' h') (h.2 i hi))⟩

theorem Qcm {K:Act→World→Prop}:¬LetsOut (Only K):=fun⟨_,_,h⟩=>h

theorem Q22 {c:Cx} {kd:Nat→Op→Kind} {Q:Exit→Act→World→Prop} {id tail l m:Nat} {order:List Nat} {ops:Array Oper} {F:ak} {H Hs:aj} {a:Act} {w:World}
  (hm:c.P.follows .mixedOrders=true) (hd:YW ops.toList=true) (hB:XT c.P kd ops order tail=true) (st:St c F H a w) (iD:aI Hs w) (h:JL c (Q .normal) (.draw Hs true) (Qg kd ops tail order) F H) :
  (Code.region id ops true).wpIn (Fence.wide.inRound l) m c.P Q a w:=by
 simp only[XT,Bool.and_eq_true]at hB
 obtain⟨hs,ht,hal,hl,hc,hu⟩:=hB
 have hl:order.length=ops.size:=by simpa using hl
 refine wpIn_mono ?_ (fun e a w h=>Only.up e a w h)
 refine wpIn_region_any hm (Q5q Qcm hd _ _ _ _ (XG (kd:=kd) (S:=Src c Hs) _ _ _ _ ?_))
 have st':St c F H a { w with drawn:=w.drawn+1 }:=⟨st.fr,st.kp.trans (Kp.drew _ _),st.hs.kp (Kp.drew [] w) au,st.wr⟩
 have hU:∀ i,i<ops.size→gX c.P kd ops i=true→Q0h c.P kd ops (Array.replicate ops.size false) i=true:=fun i hi hx=>by
  have:=List.all_eq_true.1 hu i (List.mem_range.2 hi)
  simpa [hx] using this
 refine sim (Q:=Only (Q .normal)) (K:=Q .normal) hs hU (fun a w h=>h) (fun ch a a' w h=>h.elim) order _ hc ht ops.size true _ H F (fun _=>none) a a _ h ?_ ?_
 ·refine⟨st',fun _=>iD.kp (Kp.drew [] w) au,⟨rfl,rfl,(fun e ob o d h=>by cases h),fun s _=>rfl⟩,⟨fun e ob h=>(by cases h),fun e ob h=>(by cases h),fun e ob o h=>(by cases h),fun e ob o h=>(by cases h),fun e b o h=>(by cases h),fun e b h=>(by cases h),fun e e' b h=>(by cases h)⟩,
   by simp,by simp,fun j hj=>by simp,fun j hj _=>?_,.inl rfl⟩
  have:=List.all_eq_true.1 hal j (List.mem_range.2 hj)
  simpa using this
 ·exact hl▸List.countP_le_length

theorem Q21 {c:Cx} {Q:Exit→Act→World→Prop} {id l m:Nat} {ops:Array Oper} {ov:List (Nat × Kind)} {F:ak} {H:aj} {a:Act} {w:World}
  (hd:YW ops.toList=true) (st:St c F H a w) (h:JL c (Q .normal) .text (Qd ov ops 0 ops.toList) F H):(Code.region id ops false).wpIn (Fence.wide.inRound l) m c.P Q a w:=by
 obtain⟨kd,hl,he⟩:=Xb ov ops ops.toList 0
 rw[he]at h
 have:=YP (P:=c.P) (ops:=ops) (Q:=Only (Q .normal)) rfl _ F H h a w st
 rw[List.map_fst_zip oq]at this
 exact wpIn_mono (wpIn_region_list (W4 Qcm hd this)) (fun e a w h=>Only.up e a w h)

theorem Q3y {P:Program} {F:Fence} {n:Nat} {Q:Exit→Act→World→Prop} {c:Code} {a:Act} {w:World} (I:Nat→Act→World→Prop) (n0:Nat) (h₀:I n0 a w)
  (round:∀ m a w,I m a w→c.wpIn F n P (Exit.then (fun a' w'=>∃ k,k<m∧I k a' w') Q) a w):(Code.loop c).wpIn F n P Q a w:=by
 intro b k cs hro hb hr
 have key:∀ j a w,I j a w →
   ∃ e a' w',Q e a' w'∧ArrivesIn (Machine.fenced P F) P (lone (b.atR a (.code c::.inLoop c::k)) cs w) b k cs e a' w':=by
  intro j
  induction j using Nat.strongRecOn with
  | _ j ih =>
   intro a w hI
   obtain⟨e,a₁,w₁,hq,harr⟩:=round j a w hI b (.inLoop c::k) cs hro hb hr
   cases e with
   | normal =>
    obtain⟨m,hlt,hI₁⟩:=hq
    obtain⟨e₂,a₂,w₂,hq₂,harr₂⟩:=ih m hlt a₁ w₁ hI₁
    exact⟨e₂,a₂,w₂,hq₂,.of_steps (StepsIn.trans harr (.one (fenced_calm hb hr rfl) stepR_inLoop)) harr₂⟩
   | exit id=>exact⟨_,a₁,w₁,hq,.pass (x:=.inLoop c) rfl (fun _ _=>.inl au) harr⟩
   | goto l=>exact⟨_,a₁,w₁,hq,.pass (x:=.inLoop c) rfl (fun _ _=>.inl au) harr⟩
   | ret=>exact⟨_,a₁,w₁,hq,.pass (x:=.inLoop c) rfl (fun _ _=>.inl au) harr⟩
   | panic ch=>exact⟨_,a₁,w₁,hq,.pass (x:=.inLoop c) rfl (fun _ _=>.inl au) harr⟩
   | outgrown=>exact⟨_,a₁,w₁,hq,.pass (x:=.inLoop c) rfl (fun _ _=>.inl au) harr⟩
 obtain⟨e,a',w',hq,harr⟩:=key n0 a w h₀
 exact⟨e,a',w',hq,.of_steps (.one (fenced_calm hb hr rfl) stepR_loop) harr⟩

def toB (l m:Nat) (od:List Od):Code→dV
 | .skip=>.skip
 | .region id ops true=>.opsD (Qg (Qk (ay od id).ov) ops (ay od id).tail (QA (ay od id) ops.size))
 | .region id ops false=>.ops (Qd (ay od id).ov ops 0 ops.toList)
 | .seq a b=>.seq (toB l m od a) (toB l m od b)
 | .cond c a b=>.cond c (toB l m od a) (toB l m od b)
 | .block id c=>.block id (toB l m od c)
 | .loop c=>.loop (toB l m od c)
 | .exit id=>.exit id
 | .ret=>.ret
 | c=>.rawIn l m c

def okB (P:Program) (od:List Od):Code→Bool
 | .region id ops true=>XT P (Qk (ay od id).ov) ops (QA (ay od id) ops.size) (ay od id).tail && YW ops.toList
 | .region _ ops false=>YW ops.toList
 | .seq a b=>okB P od a && okB P od b
 | .cond _ a b=>okB P od a && okB P od b
 | .block _ c=>okB P od c
 | .loop c=>okB P od c
 | _=>true

theorem Z8 {c:Cx} (l m:Nat) (od:List Od) (hm:c.P.follows .mixedOrders=true):∀ (s:Code) (Q:Exit→Act→World→Prop) (a:Act) (w:World),
  okB c.P od s=true→(toB l m od s).wp c Q a w→s.wpIn (Fence.wide.inRound l) m c.P Q a w
 | .skip,Q,a,w,_,h=>wpIn_skip h
 | .region id ops false,Q,a,w,hk,h=>by
  obtain⟨F,H,st,h⟩:=h
  exact Q21 hk st h
 | .region id ops true,Q,a,w,hk,h=>by
  obtain⟨F,H,Hs,st,iD,h⟩:=h
  simp only[okB,Bool.and_eq_true]at hk
  exact Q22 hm hk.2 hk.1 st iD h
 | .seq x y,Q,a,w,hk,h=>by
  simp only[okB,Bool.and_eq_true]at hk
  refine wpIn_seq (Z8 l m od hm x _ a w hk.1 ?_)
  refine aQ.wp_mono' (fun e a w hq=>?_) h
  cases e<;>first|exact hq|exact Z8 l m od hm y _ _ _ hk.2 hq
 | .cond x y z,Q,a,w,hk,h=>by
  simp only[okB,Bool.and_eq_true]at hk
  obtain⟨t,hc,h1,h2⟩:=h
  exact wpIn_cond_split hc (fun ht=>Z8 l m od hm y _ _ _ hk.1 (h1 ht)) (fun ht=>Z8 l m od hm z _ _ _ hk.2 (h2 ht))
 | .block id s,Q,a,w,hk,h=>wpIn_block (Z8 l m od hm s _ _ _ hk h)
 | .loop s,Q,a,w,hk,h=>by
  obtain⟨I,⟨n,h0⟩,hr⟩:=h
  exact Q3y I n h0 fun n a w hi=>Z8 l m od hm s _ _ _ hk (hr n a w hi)
 | .exit id,Q,a,w,_,h=>wpIn_exit h
 | .ret,Q,a,w,_,h=>wpIn_ret h
 | .scope _,_,_,_,_,h=>h
 | .label _,_,_,_,_,h=>h
 | .goto _,_,_,_,_,h=>h
 | .refuse _,_,_,_,_,h=>h
 | .rangeFunc ..,_,_,_,_,h=>h

def Cells (H:aj):Prop:=∀ p∈H,p.2.isCells=true

theorem Cells.nil:Cells []:=fun _ h=>nomatch h
theorem Cells.cons {H:aj} {b:Nat} {cs:Array Value} {T:TypeId} {fz:Nat × Nat} (h:Cells H):Cells ((b,.cells cs T fz)::H):=fun p hp=>by
 rcases List.mem_cons.1 hp with rfl|hp
 ·rfl
 ·exact h p hp
theorem Cells.app {A B:aj} (h:Cells A) (k:Cells B):Cells (A++B):=fun p hp=>by
 rcases List.mem_append.1 hp with hp|hp
 ·exact h p hp
 ·exact k p hp
theorem aB.cells' {e:TypeId} {sz n:Nat} {N:aj} {v:Value} {cs:List Value} (h:aB e sz N v n cs):Cells N:=by
 obtain⟨_,⟨_,_,rfl⟩|⟨b,cap,cur,_,rfl,_⟩⟩:=h
 ·exact Cells.nil
 ·exact Cells.cons Cells.nil

structure RSt (wb:World) (c:Cx) (H:aj) (W:World):Prop where
 hs:aI H W
 wr:∀ p∈H,c.w0.heap.size≤p.1∨p.1∈c.M
 kp:Kp c.M c.w0 W
 kb:Kp [] wb W
 ge:∀ p∈H,wb.heap.size≤p.1
 cells:Cells H

def RInv {N:Nat} (wb:World) (c:Cx) (n0:Nat) (Iv:List Nat→aj→Prop) (xs:List {i:Nat // i<N}) (W:World):Prop:=n0≤W.heap.size∧∃ H,Iv (xs.map (·.1)) H∧RSt wb c H W

theorem Q03 {N:Nat} {wb:World} {c:Cx} {Iv:List Nat→aj→Prop} {B n0:Nat} (hb:wb.heap.size≤B) (hB:c.w0.heap.size≤B):OwnFrom B (RInv (N:=N) wb c n0 Iv):=by
 rintro xs W W' row ⟨hn0,H,hi,hs,hwr,hk,hkb,hge,hc⟩ hg hr
 have key:∀ (k:Nat) (o:Obj),W.heap[k]?=some o→o.isCells=true→W'.heap[k]?=some o:=fun k o h hc=>by
  refine(hg.block k (Array.getElem?_eq_some_iff.1 h).1 (fun e=>?_)).trans h
  obtain⟨_,o',h1,h2⟩:=hr k e.symm
  rw[h]at h1
  cases h1
  rw[hc]at h2;cases h2
 have kpx:∀ (M:List Nat) (w0:World),w0.heap.size≤B→Kp M w0 W→Kp M w0 W':=fun M w0 h0 hk =>
  ⟨hg.os.trans hk.os,hg.tape.trans hk.tape,hg.output.trans hk.output,V0 hk.size hg.size,fun k hk' hm=>(hg.block k (V7 hk' hk.size) (fun e=>by have:=(hr k e.symm).1;omega)).trans (hk.block k hk' hm)⟩
 exact⟨V0 hn0 hg.size,H,hi,⟨hs.nd,fun p hp=>key _ _ (hs.blk p hp) (hc p hp)⟩,hwr,kpx _ _ hB hk,kpx _ _ hb hkb,hge,hc⟩

def eH:Option Obj→Nat→aj
 | none,_=>[]
 | some o,b=>[(b,o)]
def exOk (n0:Nat) (W:World):Option Obj→Nat→Prop
 | none,_=>True
 | some o,b=>W.heap[b]?=some o∧n0≤b∧o.isCells=true
def jF (n n0:Nat) (FA:Nat→ak) (ob:Option Obj) (a:Act) (W:World):Prop:=∃ b,dS n (FA b) a∧exOk n0 W ob b
def Q6r (n:Nat) (FA:Nat→ak) (ob:Option Obj) (c:Cx):Exit→Act→World→Prop
 | .normal,a,w=>Kp [] c.w0 w∧jF n c.w0.heap.size FA ob a w
 | _,_,_=>False
def Q8f (J:aj→Prop) (c:Cx):Exit→Act→World→Prop
 | .normal,a,w=>∃ F H,J H∧Cells H∧St c F H a w
 | _,_,_=>False

theorem Q6s {c:Cx} {F:ak} {FA:Nat→ak} {H:aj} (hM:c.M=[]) (hc:cov F (FA 0)):JX c (Q6r c.n FA none c) .normal F H :=
 ⟨fun a w st=>⟨by have:=st.kp;rwa [hM]at this,0,⟨st.fr.defers,st.fr.size,fun i v hl=>st.fr.fr i v (Q00 hc i v hl)⟩,trivial⟩⟩
theorem Q04 {c:Cx} {F:ak} {FA:Nat→ak} {H:aj} {b:Nat} {o:Obj} (k:Nat) (hM:c.M=[]) (hk:H[k]?=some (b,o)) (ho:o.isCells=true) (hc:cov F (FA b)):JX c (Q6r c.n FA (some o) c) .normal F H :=
 ⟨fun a w st => ⟨by have := st.kp; rwa [hM] at this, b, ⟨st.fr.defers, st.fr.size, fun i v hl => st.fr.fr i v (Q00 hc i v hl)⟩, st.hs.blk _ (List.mem_of_getElem? hk), (by
  rcases st.wr _ (List.mem_of_getElem? hk)with h|h
  ·exact h
  ·rw[hM]at h;cases h),ho⟩⟩
theorem Q3t {n n0 B:Nat} {FA:Nat→ak} {ob:Option Obj} {a:Act}:OwnFrom B (fun(_:Unit) W=>jF n n0 FA ob a W):=by
 rintro _ W W' row ⟨b,hf,hx⟩ hg hr
 refine⟨b,hf,?_⟩
 cases ob with
 | none=>trivial
 | some o =>
  obtain⟨h,hb,hc⟩:=hx
  refine⟨(hg.block b (Array.getElem?_eq_some_iff.1 h).1 (fun e=>?_)).trans h,hb,hc⟩
  obtain⟨_,o',h1,h2⟩:=hr b e.symm
  rw[h]at h1
  cases h1
  rw[hc]at h2;cases h2
theorem jF.le {n n0 n1:Nat} {FA:Nat→ak} {ob:Option Obj} {a:Act} {W:World} (h:jF n n0 FA ob a W) (hn:n1≤n0):jF n n1 FA ob a W:=by
 obtain⟨b,hf,hx⟩:=h
 refine⟨b,hf,?_⟩
 cases ob with
 | none=>trivial
 | some o=>exact⟨hx.1,V0 hn hx.2.1,hx.2.2⟩
theorem RSt.ex {wb:World} {c:Cx} {H:aj} {W:World} {ob:Option Obj} {b n0:Nat} (h:RSt wb c H W) (hx:exOk n0 W ob b) (h1:wb.heap.size≤n0) (h2:c.w0.heap.size≤n0) (hd:∀ o,ob=some o→∀ p∈H,p.2≠o):RSt wb c (eH ob b++H) W:=by
 cases ob with
 | none=>exact h
 | some o =>
  obtain⟨hb,hn,hc⟩:=hx
  refine⟨h.hs.cons hb (fun hm=>?_),fun p hp=>?_,h.kp,h.kb,fun p hp=>?_,fun p hp=>?_⟩
  ·obtain⟨p,hp,e⟩:=List.mem_map.1 hm
   have:=h.hs.blk p hp
   rw[e,hb]at this
   exact hd o rfl p hp (Option.some.inj this).symm
  all_goals
   rcases List.mem_cons.1 hp with rfl|hp
  ·exact .inl (V0 h2 hn)
  ·exact h.wr p hp
  ·exact V0 h1 hn
  ·exact h.ge p hp
  ·exact hc
  ·exact h.cells p hp
theorem XX {c:Cx} {F:ak} {H H':aj} {J:aj→Prop} (hJ:J H') (hc:Cells H') (hs:HSub H' H):JX c (Q8f J c) .normal F H :=
 ⟨fun a w st=>⟨[],H',hJ,hc,st.part trivial hs⟩⟩

theorem zip2 (p1 p2:Tmp) (u v:Value) (t:Array Value):((#[p1,p2]:Array Tmp).zip #[u,v]).foldl (fun t (p,v)=>t.setIfInBounds p v) t=(t.setIfInBounds p1 u).setIfInBounds p2 v:=by simp

theorem dS.set' {n:Nat} {F:ak} {a:Act} (h:dS n F a) {d:Nat} (v:Value) (hd:Nat.blt d n=true):dS n ((d,v)::F) { a with tmps:=a.tmps.setIfInBounds d v }:=by
 have:=h.put (d:=some d) v (by simpa [Qx] using hd)
 exact this

theorem Zk {H:aj} {W:World} (hs:aI H W):∀ k∈keys H,k<W.heap.size:=fun k hk=>by
 obtain⟨p,hp,rfl⟩:=List.mem_map.1 hk
 exact hs.lt hp

theorem XV {wb:World} {c c2:Cx} {H H':aj} {W':World} {a':Act} {F:ak} (B bx:Nat) (box:Obj) (h:RSt wb c H c2.w0) (hM:c2.M=keys H) (st:St c2 F H' a' W') (hc:Cells H') (hb:(bx,box)∈H) (hb':(bx,box)∈H') :
  KeepsFrom B c2.w0 W'∧KB [bx] c2.w0 W'∧RSt wb c H' W':=by
 have hk:=st.kp
 have hnm:∀ q,q<c2.w0.heap.size→(∀ o,c2.w0.heap[q]?=some o→o.isCells=false)→q∉keys H:=fun q hq ho hm=>by
  obtain⟨p,hp,rfl⟩:=List.mem_map.1 hm
  have h1:=ho _ (h.hs.blk p hp)
  rw[h.cells p hp]at h1;cases h1
 refine⟨⟨hk.size,fun k o _ ho hcl=>(hk.block k (Array.getElem?_eq_some_iff.1 ho).1 ?_).trans ho⟩,fun q hq=>?_,⟨st.hs,fun p hp=>?_,?_,?_,fun p hp=>?_,hc⟩⟩
 ·rw[hM];exact hnm k (Array.getElem?_eq_some_iff.1 ho).1 (fun o' ho'=>by rw[ho]at ho';cases ho';exact hcl)
 ·cases List.mem_singleton.1 hq
  exact(st.hs.blk _ hb').trans (h.hs.blk _ hb).symm
 ·rcases st.wr p hp with h1|h1
  ·exact .inl (V0 h.kp.size h1)
  ·rw[hM]at h1
   obtain⟨q,hq,e⟩:=List.mem_map.1 h1
   rw[← e];exact h.wr q hq
 ·refine⟨hk.os.trans h.kp.os,hk.tape.trans h.kp.tape,hk.output.trans h.kp.output,V0 h.kp.size hk.size,fun q hq hm=>(hk.block q (V7 hq h.kp.size) ?_).trans (h.kp.block q hq hm)⟩
  rw[hM]
  intro hq2
  obtain⟨p,hp,rfl⟩:=List.mem_map.1 hq2
  rcases h.wr p hp with h1|h1
  ·omega
  ·exact hm h1
 ·refine⟨hk.os.trans h.kb.os,hk.tape.trans h.kb.tape,hk.output.trans h.kb.output,V0 h.kb.size hk.size,fun q hq _=>(hk.block q (V7 hq h.kb.size) ?_).trans (h.kb.block q hq au)⟩
  rw[hM]
  intro hq2
  obtain⟨p,hp,rfl⟩:=List.mem_map.1 hq2
  have:=h.ge p hp
  omega
 ·rcases st.wr p hp with h1|h1
  ·exact V0 h.kb.size h1
  ·rw[hM]at h1
   obtain⟨q,hq,e⟩:=List.mem_map.1 h1
   rw[← e];exact h.ge q hq

theorem Qdx {N:Nat} {wb:World} {c:Cx} {Iv:List Nat→aj→Prop} {xs:List {i:Nat // i<N}} {B n0 bx:Nat} {box:Obj} {W W':World} (h:RInv wb c n0 Iv xs W) (hbx:∀ k H',Iv k H'→(bx,box)∈H') (hk:Kp [] W W'):KeepsFrom B W W'∧KB [bx] W W'∧RInv wb c n0 Iv xs W':=by
 obtain⟨hn0,H,hi,hs,hwr,hk0,hkb,hge,hc⟩:=h
 have hs':=hs.kp hk au
 exact⟨⟨hk.size,fun k o _ h _=>(hk.block k (Array.getElem?_eq_some_iff.1 h).1 au).trans h⟩,fun q hq=>by cases List.mem_singleton.1 hq;exact(hs'.blk _ (hbx _ _ hi)).trans (hs.blk _ (hbx _ _ hi)).symm,
  V0 hn0 hk.size,H,hi,hs',hwr,hk0.trans (hk.mono (fun k hk'=>by cases hk')),hkb.trans hk,hge,hc⟩

theorem St.heap {c:Cx} {F:ak} {H H':aj} {a:Act} {w:World} (h:St c F H a w) (hh:HSub H' H):St c F H' a w :=
 ⟨h.fr,h.kp,hh.bU h.hs,fun p hp=>h.wr p (hh.mem p hp)⟩

section
variable {c:Cx} {Q:Exit→Act→World→Prop} {F:ak} {H:aj} {g:Operand} {p1 p2:Tmp} {assign body tail:Code} {gf:Nat} {lb:Array Value} {u v:Nat→Value} {N bx:Nat} {box:Obj} {fn:Func} {R:Ending→World→Prop}

def Qjg (P:Program) (gf:Nat) (lb:Array Value) (u v:Nat→Value) (N bx:Nat) (box:Obj):Prop :=
 ∀ (n:Nat) (W:World),1≤n→W.heap[bx]?=some box→SeqStopsK Fence.wide n P gf lb (fun i:{i:Nat // i<N}=>#[u i.1,v i.1]) (KB [bx]) (fun ys=>ys.map (·.1)=List.range N) (fun _=>True) N W

theorem Qj8 {wb:World} {od:List Od} (hm:c.P.follows .mixedOrders=true) {Iv:List Nat→aj→Prop} (hbx:∀ k H',Iv k H'→(bx,box)∈H') {FA:Nat→ak} {ob:Option Obj} {B n0 l m:Nat} {pre:List {i:Nat // i<N}} {i:{i:Nat // i<N}} {a':Act} {W1:World} (ji:okB c.P od body=true) (hl:∃ r,W1.heap[l]?=some (.loop r)) (hI:RInv wb c n0 Iv pre W1) (hA:jF c.n n0 FA ob a' W1) (hn0:wb.heap.size≤n0) (hn1:c.w0.heap.size≤n0) (hlen:pre.length<N)
  (hd:∀ o,ob=some o→∀ k H',Iv k H'→∀ p∈H',p.2≠o)
  (hbody:∀ b H' hM',Iv (pre.map (·.1)) H'→l∉keys (eH ob b++H')→Kp [] wb W1→(∀ p∈eH ob b++H',wb.heap.size≤p.1)→JC ⟨c.P,c.n,W1,keys (eH ob b++H'),hM'⟩ (Q8f (Iv (pre.map (·.1)++[i.1])) ⟨c.P,c.n,W1,keys (eH ob b++H'),hM'⟩) (toB l m od body) (FA b) (eH ob b++H')) :
  body.wpIn (Fence.wide.inRound l) m c.P (ownPostG B (KB [bx]) (RInv wb c n0 Iv) (fun _ _ _=>False) (pre++[i]) W1) a' W1:=by
 obtain⟨hsz,H0,hi,hR0⟩:=hI
 obtain⟨b,hA,hx⟩:=hA
 have hR:=hR0.ex hx hn0 hn1 (fun o ho=>hd o ho _ _ hi)
 obtain⟨r,hr⟩:=hl
 have hln:l∉keys (eH ob b++H0):=fun hm'=>by
  obtain⟨p,hp,rfl⟩:=List.mem_map.1 hm'
  have h1:=hR.hs.blk p hp
  rw[hr]at h1
  have h2:=hR.cells p hp
  rw[← Option.some.inj h1]at h2;cases h2
 have hM':=Zk hR.hs
 refine wpIn_mono (Z8 (c:=⟨c.P,c.n,W1,keys (eH ob b++H0),hM'⟩) l m od hm body _ _ _ ji ((hbody b H0 hM' hi hln hR.kb hR.ge).h _ _ ⟨hA,Kp.refl _ _,hR.hs,fun p hp=>.inr (List.mem_map.2 ⟨p,hp,rfl⟩)⟩)) (fun e a w hq=>?_)
 cases e with
 | normal =>
  obtain⟨F2,H2,hJ,hc2,st2⟩:=hq
  obtain⟨h1,h2,h3⟩:=XV (c2:=⟨c.P,c.n,W1,keys (eH ob b++H0),hM'⟩) B bx box hR rfl st2 hc2 (List.mem_append_right _ (hbx _ _ hi)) (hbx _ _ hJ)
  exact⟨h1,h2,V0 hsz st2.kp.size,H2,by rw[Vl];exact hJ,h3⟩
 | _=>exact hq.elim

theorem Q5j {od:List Od} (wb:World) (hwb:c.w0=wb) (hm:c.P.follows .mixedOrders=true) (hM:c.M=[]) (hg:ev F g=some (.func (.func gf) #[] lb)) (eg:∀ args w,(callFunc gf args).run c.P w=.ok (.enter gf args) w)
  (it:Qjg c.P gf lb u v N bx box) (Iv:List Nat→aj→Prop) (hbx:∀ k H',Iv k H'→(bx,box)∈H') (hcl:∀ k H',Iv k H'→Cells H') (H0:aj) (h0:Iv [] H0) (hH0:HSub H0 H) (FA:Nat→Nat→ak) (ob:Nat→Option Obj) (hd:∀ i o,ob i=some o→∀ k H',Iv k H'→∀ p∈H',p.2≠o)
  (hp1:Nat.blt p1 c.n=true) (hp2:Nat.blt p2 c.n=true) (hoka:okB c.P od assign=true) (ji:okB c.P od body=true) (htl:Q5t tail=true) (hQ:∀ a w,tail.wp c.P (bodyPostM Fence.wide 5 c.P fn R) a w→Q .normal a w)
  (hassign:∀ l i W hW,JC ⟨c.P,c.n,W,[],hW⟩ (Q6r c.n (FA i) (ob i) ⟨c.P,c.n,W,[],hW⟩) (toB l 3 od assign) ((p2,v i)::(p1,u i)::F) [])
  (hbody:∀ l i pre b H' W1 hM',i<N→pre.length<N→Iv pre H'→(∃ r,W1.heap[l]?=some (.loop r))→l∉keys (eH (ob i) b++H')→Kp [] wb W1→(∀ p∈eH (ob i) b++H',wb.heap.size≤p.1)→JC ⟨c.P,c.n,W1,keys (eH (ob i) b++H'),hM'⟩ (Q8f (Iv (pre++[i])) ⟨c.P,c.n,W1,keys (eH (ob i) b++H'),hM'⟩) (toB l 3 od body) (FA i b) (eH (ob i) b++H'))
  (hdone:∀ D H',Iv (List.range N) H'→wb.heap.size≤D→JC c (fun e a w=>bodyPostM Fence.wide 5 c.P fn R e (ad [{ target:=.collected D,args:=#[] }] a) w) (toS od tail) F ((D,.deferred (some []))::H')) :
  JC c Q (.raw (.rangeFunc g #[p1,p2] assign body)) F H:=by
 subst hwb
 refine⟨fun a W st=>?_⟩
 obtain⟨tm,df⟩:=a
 obtain rfl:df=[]:=st.fr.defers
 have st0:=st.heap hH0
 have hkp:Kp [] c.w0 W:=by have:=st.kp;rwa [hM]at this
 have hI0:RInv (N:=N) c.w0 c W.heap.size Iv [] W:=⟨V8 _,H0,h0,st0.hs,st0.wr,st.kp,hkp,fun p hp=>(by
  rcases st0.wr p hp with h|h
  ·exact h
  ·rw[hM]at h;cases h),hcl _ _ h0⟩
 have hWs:c.w0.heap.size≤W.heap.size:=st.kp.size
 have hbxW:=st0.hs.blk _ (hbx _ _ h0)
 have hbxlt:bx<W.heap.size:=(Array.getElem?_eq_some_iff.1 hbxW).1
 refine wpIn_wide.1 (wpIn_rangeFunc_ownH (F:=Fence.wide) (n:=5) rfl oq (gf:=gf) (lb:=lb) (st.fr.ev hg) trivial eg
  (it 4 W oq hbxW) KB.trans (fun W' l o o' hl ho _ _ q hq=>?_) (Below.refl _ _) (fun _=>rfl)
  (RInv c.w0 c W.heap.size Iv) (fun _ _ _=>False) (Q03 hWs hWs) (fun _ _ _ _ _ hs _ _=>hs) hI0 (fun i a W'=>jF c.n W.heap.size (FA i.1) (ob i.1) a W') (fun _ _=>Q3t) ?assign ?body ?done ?stop)
 ·cases List.mem_singleton.1 hq
  exact World.putObj_heap_other (fun e=>by omega)
 case assign =>
  intro l pre i W1 K hI hK
  have hW1:W.heap.size≤W1.heap.size:=hI.1
  rw[zip2]
  refine wpIn_mono (Z8 (c:=⟨c.P,c.n,W1,[],by simp⟩) l 3 od hm assign _ _ _ hoka ((hassign l i.1 W1 au).h _ _ ⟨?_,Kp.refl _ _,⟨by simp,by simp⟩,fun p hp=>by cases hp⟩)) (fun e a w hq=>?_)
  ·exact(st.fr.set' (u i.1) hp1).set' (v i.1) hp2
  ·cases e with
   | normal =>
    obtain⟨h1,h2,h3⟩:=Qdx (B:=W.heap.size) hI hbx hq.1
    exact hK _ _ h1 h2 h3 (hq.2.le hW1)
   | _=>exact hq.elim
 case body =>
  intro l pre i a' W1 hl hr hI hA hlen
  exact Qj8 hm hbx ji hr hI hA (V0 hkp.size (V8 _)) hWs hlen (fun o ho k H' hH'=>hd i.1 o ho k H' hH') (fun b H' hM' hi hln hkb hge=>hbody l i.1 _ b H' W1 hM' i.2 (by rw[List.length_map];exact hlen) hi hr hln hkb hge)
 case done =>
  intro D ys W1 hD hys hI jA
  obtain⟨_,H',hi,hR⟩:=hI
  rw[hys]at hi
  have hD2:c.w0.heap.size≤D:=V0 hWs hD
  have hDn:D∉H'.map (·.1):=fun hm=>by
   obtain⟨p,hp,rfl⟩:=List.mem_map.1 hm
   have h1:=hR.hs.blk p hp
   rw[jA]at h1
   have h2:=hR.cells p hp
   rw[← Option.some.inj h1]at h2;cases h2
  refine hQ _ _ (YN (c:=c) od [{ target:=.collected D,args:=#[] }] tail (fun e a w=>bodyPostM Fence.wide 5 c.P fn R e (ad [{ target:=.collected D,args:=#[] }] a) w) _ htl (fun e a w h=>h) { tmps:=tm,defers:=[] } W1 ((hdone D H' hi hD2).h _ _ ⟨st.fr,hR.kp,hR.hs.cons jA hDn,fun p hp=>?_⟩))
  rcases List.mem_cons.1 hp with rfl|hp
  ·exact .inl hD2
  ·exact hR.wr p hp
 case stop =>
  intro D c pre W1 _ _ h _
  exact h.elim

theorem Qer {od:List Od} {l0:Nat} (wb:World) (hm:c.P.follows .mixedOrders=true) (hl0:∃ r,c.w0.heap[l0]?=some (.loop r)) (hlM:l0∉c.M) (hg:ev F g=some (.func (.func gf) #[] lb)) (eg:∀ args w,(callFunc gf args).run c.P w=.ok (.enter gf args) w)
  (it:Qjg c.P gf lb u v N bx box) (hkb:Kp [] wb c.w0) (hMb:∀ k∈c.M,wb.heap.size≤k) (Iv:List Nat→aj→Prop) (hbx:∀ k H',Iv k H'→(bx,box)∈H') (hcl:∀ k H',Iv k H'→Cells H') (H0:aj) (h0:Iv [] H0) (hH0:HSub H0 H) (FA:Nat→Nat→ak) (ob:Nat→Option Obj) (hd:∀ i o,ob i=some o→∀ k H',Iv k H'→∀ p∈H',p.2≠o)
  (hp1:Nat.blt p1 c.n=true) (hp2:Nat.blt p2 c.n=true) (hoka:okB c.P od assign=true) (ji:okB c.P od body=true)
  (hassign:∀ l i W hW,JC ⟨c.P,c.n,W,[],hW⟩ (Q6r c.n (FA i) (ob i) ⟨c.P,c.n,W,[],hW⟩) (toB l 1 od assign) ((p2,v i)::(p1,u i)::F) [])
  (hbody:∀ l i pre b H' W1 hM',i<N→pre.length<N→Iv pre H'→l∉keys (eH (ob i) b++H')→Kp [] wb W1→(∀ p∈eH (ob i) b++H',wb.heap.size≤p.1)→JC ⟨c.P,c.n,W1,keys (eH (ob i) b++H'),hM'⟩ (Q8f (Iv (pre++[i])) ⟨c.P,c.n,W1,keys (eH (ob i) b++H'),hM'⟩) (toB l 1 od body) (FA i b) (eH (ob i) b++H'))
  (hdone:∀ H',Iv (List.range N) H'→JX c Q .normal F H') :
  JC c Q (.rawIn l0 3 (.rangeFunc g #[p1,p2] assign body)) F H:=by
 refine⟨fun a W st=>?_⟩
 obtain⟨tm,df⟩:=a
 obtain rfl:df=[]:=st.fr.defers
 have st0:=st.heap hH0
 obtain⟨r0,hr0⟩:=hl0
 have hr1:W.heap[l0]?=some (.loop r0):=(st.kp.block l0 (Array.getElem?_eq_some_iff.1 hr0).1 hlM).trans hr0
 have hkp:Kp [] wb W:=⟨st.kp.os.trans hkb.os,st.kp.tape.trans hkb.tape,st.kp.output.trans hkb.output,V0 hkb.size st.kp.size,fun q hq _=>(st.kp.block q (V7 hq hkb.size) (fun h=>by have:=hMb q h;omega)).trans (hkb.block q hq au)⟩
 have hI0:RInv (N:=N) wb c W.heap.size Iv [] W:=⟨V8 _,H0,h0,st0.hs,st0.wr,st.kp,hkp,fun p hp=>(by
  rcases st0.wr p hp with h|h
  ·exact V0 hkb.size h
  ·exact hMb _ h),hcl _ _ h0⟩
 have hWs:c.w0.heap.size≤W.heap.size:=st.kp.size
 have hbxW:=st0.hs.blk _ (hbx _ _ h0)
 have hbxlt:bx<W.heap.size:=(Array.getElem?_eq_some_iff.1 hbxW).1
 refine wpIn_rangeFunc_ownN (F:=Fence.wide.inRound l0) (n:=3) rfl hr1 oq (gf:=gf) (lb:=lb) (st.fr.ev hg) trivial eg
  (SeqStopsK.inRound l0 (it 2 W oq hbxW)) KB.trans (fun W' l o o' hl ho _ _ q hq=>?_) (Below.refl _ _) (fun _=>rfl)
  (RInv wb c W.heap.size Iv) (fun _ _ _=>False) (Q03 hkp.size hWs) (fun _ _ _ _ _ hs _ _=>hs) hI0 (fun i a W'=>jF c.n W.heap.size (FA i.1) (ob i.1) a W') (fun _ _=>Q3t) ?assign ?body ?done ?stop
 ·cases List.mem_singleton.1 hq
  exact World.putObj_heap_other (fun e=>by omega)
 case assign =>
  intro l pre i W1 K hI hK
  have hW1:W.heap.size≤W1.heap.size:=hI.1
  rw[zip2]
  refine wpIn_mono (Z8 (c:=⟨c.P,c.n,W1,[],by simp⟩) l 1 od hm assign _ _ _ hoka ((hassign l i.1 W1 au).h _ _ ⟨?_,Kp.refl _ _,⟨by simp,by simp⟩,fun p hp=>by cases hp⟩)) (fun e a w hq=>?_)
  ·exact(st.fr.set' (u i.1) hp1).set' (v i.1) hp2
  ·cases e with
   | normal =>
    obtain⟨h1,h2,h3⟩:=Qdx (B:=W.heap.size) hI hbx hq.1
    exact hK _ _ h1 h2 h3 (hq.2.le hW1)
   | _=>exact hq.elim
 case body =>
  intro l pre i a' W1 hl hr hI hA hlen
  exact Qj8 hm hbx ji hr hI hA hkp.size hWs hlen (fun o ho k H' hH'=>hd i.1 o ho k H' hH') (fun b H' hM' hi hln hkb hge=>hbody l i.1 _ b H' W1 hM' i.2 (by rw[List.length_map];exact hlen) hi hln hkb hge)
 case done =>
  intro ys W1 hys hI
  obtain⟨_,H',hi,hR⟩:=hI
  rw[hys]at hi
  exact(hdone H' hi).h _ _ ⟨st.fr,hR.kp,hR.hs,hR.wr⟩
 case stop =>
  intro c pre W1 _ h
  exact h.elim

theorem XW {D:Nat} (k:Nat) (hD:H[k]?=some (D,.deferred (some []))) (hge:c.w0.heap.size≤D) (hM:c.M=[]) (h:JX c (Yp c.P fn.results R) .ret F (H.eraseIdx k)) :
  JX c (fun e a w=>bodyPostM Fence.wide 5 c.P fn R e (ad [{ target:=.collected D,args:=#[] }] a) w) .ret F H:=by
 refine⟨fun a w st=>?_⟩
 have hK:w.heap[D]?=some (.deferred (some [])):=st.hs.blk _ (List.mem_of_getElem? hD)
 have hd2:a.defers=[]:=st.fr.defers
 have hk2:Kp c.M c.w0 (w.putObj D (.deferred none)):=⟨st.kp.os,st.kp.tape,st.kp.output,by simpa using st.kp.size,fun q hq hm=>(World.putObj_heap_other (fun e=>by subst e;omega)).trans (st.kp.block q hq hm)⟩
 have hkl:k<H.length:=(List.getElem?_eq_some_iff.1 hD).1
 have hsub:HSub (H.eraseIdx k) H:=⟨[(D,.deferred (some []))],by
  have h1:=X5 H k hkl
  have h2:H[k]=(D,.deferred (some [])):=(List.getElem?_eq_some_iff.1 hD).2
  rw[h2]at h1
  exact h1.symm.trans (List.perm_append_comm (l₁:=[_]) (l₂:=H.eraseIdx k))⟩
 have st2:=st.heap hsub
 have hne:∀ p∈H.eraseIdx k,p.1≠D:=fun p hp e=>by
  have h1:=X5 H k hkl
  have h2:H[k]=(D,.deferred (some [])):=(List.getElem?_eq_some_iff.1 hD).2
  rw[h2]at h1
  have h3:=(h1.map (·.1)).nodup_iff.2 st.hs.nd
  rw[List.map_cons,List.nodup_cons]at h3
  exact h3.1 (List.mem_map.2 ⟨p,hp,e⟩)
 have st3:St c F (H.eraseIdx k) a (w.putObj D (.deferred none)):=⟨st.fr,hk2,⟨st2.hs.nd,fun p hp=>(World.putObj_heap_other (hne p hp)).trans (st2.hs.blk p hp)⟩,st2.wr⟩
 obtain⟨_,v,hv,hR⟩:=h.h _ _ st3
 show LeavesInM Fence.wide 5 _ _ _ _ (a.defers++_) _ _
 rw[hd2]
 exact⟨by simp,.inl ⟨D,_,rfl,run_takeDeferred hK,v,hv,hR⟩⟩
end

set_option linter.unusedSimpArgs false
set_option linter.unusedVariables false
set_option linter.unusedSectionVars false

abbrev WR:=Bool × List UInt8
def xc (x:WR):List Value:=[.bool x.1,sv x.2]
abbrev xv (x:WR):Value:=wv x.1 x.2
def iE (xs:List WR):List Value:=xs.flatMap xc
def wz (z:Int):WR:=(decide (z<0),bD z.natAbs)
abbrev w0x:WR:=(false,[])

theorem eU:wz 0=w0x:=by
 unfold wz
 rw[show bD (0:Int).natAbs=[] from YK.2 rfl]
 rfl

theorem Q1y:∀ (xs:List WR),(iE xs).length=xs.length*2
 | []=>rfl
 | x::r=>by
  show (xc x++iE r).length=_
  rw[Vk,Q1y r,List.length_cons]
  show 2+r.length*2=_
  omega
theorem Q11 (x:WR) (r:List WR):iE (x::r)=.bool x.1::sv x.2::iE r:=rfl
theorem Q1z (a b:List WR):iE (a++b)=iE a++iE b:=by simp[iE]
theorem Q6v:∀ {xs:List WR} {i:Nat},i<xs.length→(iE xs)[i*2]?=some (.bool (xs.getD i w0x).1)∧(iE xs)[i*2+1]?=some (sv (xs.getD i w0x).2)
 | [],i,h=>absurd h (Nat.not_lt_zero _)
 | x::r,0,_=>⟨rfl,rfl⟩
 | x::r,i+1,h=>by
  have h':=Q6v (xs:=r) (i:=i) (by simpa using h)
  rw[Q11,show (i+1)*2=i*2+1+1 by omega]
  simpa using h'
theorem Qev:∀ {xs:List WR} {i:Nat} {x:WR},i<xs.length→((iE xs).set (i*2) (.bool x.1)).set (i*2+1) (sv x.2)=iE (xs.set i x)
 | [],i,_,h=>absurd h (Nat.not_lt_zero _)
 | y::r,0,x,_=>rfl
 | y::r,i+1,x,h=>by
  have h':=Qev (xs:=r) (i:=i) (x:=x) (by simpa using h)
  rw[Q11,show (i+1)*2=i*2+1+1 by omega]
  simp only[List.set_cons_succ]
  rw[h']
  rfl
theorem Q3e:∀ {xs:List WR} {i:Nat},(iE xs).drop (i*2)=iE (xs.drop i)
 | xs,0=>rfl
 | [],i+1=>by simp[iE]
 | x::r,i+1=>by
  rw[Q11,show (i+1)*2=i*2+1+1 by omega]
  simp only[List.drop_succ_cons]
  exact Q3e
theorem Q3d:∀ {xs:List WR} {i:Nat},(iE xs).take (i*2)=iE (xs.take i)
 | xs,0=>by simp[iE]
 | [],i+1=>by simp[iE]
 | x::r,i+1=>by
  rw[Q11,show (i+1)*2=i*2+1+1 by omega]
  simp only[List.take_succ_cons]
  rw[Q3d]
  rfl
theorem Qa8:∀ {xs:List WR},∀ u∈iE xs,u.oneCell'=true
 | [],u,h=>nomatch h
 | x :: r, u, h => by
  rw[Q11]at h
  rcases List.mem_cons.1 h with rfl|h
  ·rfl
  ·rcases List.mem_cons.1 h with rfl|h
   ·rfl
   ·exact Qa8 u h

def WX (w:World) (v:Value) (n:Nat) (xs:List WR):Prop:=je w 2 v n (iE xs)
def RdX (c:Cx) (N:aj) (v:Value) (n:Nat) (xs:List WR):Prop:=Rd c N 2 v n (iE xs)
def dI (N:aj) (v:Value) (n:Nat) (xs:List WR):Prop:=aB 35 2 N v n (iE xs)
theorem WX.len {w:World} {v:Value} {n:Nat} {xs:List WR} (h:WX w v n xs):xs.length=n:=by have:=h.1;rw[Q1y]at this;omega
theorem RdX.len {c:Cx} {N:aj} {v:Value} {n:Nat} {xs:List WR} (h:RdX c N v n xs):xs.length=n:=by have:=h.1;rw[Q1y]at this;omega
theorem dI.len {N:aj} {v:Value} {n:Nat} {xs:List WR} (h:dI N v n xs):xs.length=n:=by have:=h.1;rw[Q1y]at this;omega
theorem WX.mono {w w':World} {v:Value} {n:Nat} {xs:List WR} (h:WX w v n xs) (hk:Kp [] w w'):WX w' v n xs:=je.mono h hk
theorem WX.rd {c:Cx} {v:Value} {n:Nat} {xs:List WR} (h:WX c.w0 v n xs) (hM:c.M=[]) (N:aj):RdX c N v n xs:=je.rd h hM N
theorem Qsv {c:Cx} {v:Value} {n:Nat} {xs:List WR} (h:WX c.w0 v n xs) (hM:0<n→(dU v 0).block∉c.M) (N:aj):RdX c N v n xs:=Qqa h hM N
theorem RdX.at {c:Cx} {N H:aj} {w:World} {v:Value} {n:Nat} {xs:List WR} (h:RdX c N v n xs) (hk:Kp c.M c.w0 w) (hs:aI H w) (hN:HSub N H):WX w v n xs:=Rd.at h hk hs hN
theorem dI.rd {c:Cx} {N:aj} {v:Value} {n:Nat} {xs:List WR} (h:dI N v n xs):RdX c N v n xs:=aB.rd h
theorem dI.new {N:aj} {v:Value} {n:Nat} {xs:List WR} {w w':World} (h:dI N v n xs) (hn:New N w w'):WX w' v n xs:=New.rd (c:=⟨Tryz.prog,0,w,[],by simp⟩) h hn
theorem dI.form {N:aj} {v:Value} {n:Nat} {xs:List WR} (h:dI N v n xs):∃ A cap,v=.slice A n cap:=by
 obtain⟨_,⟨rfl,rfl,rfl⟩|⟨b,cap,cur,rfl,_⟩⟩:=h
 ·exact⟨_,_,rfl⟩
 ·exact⟨_,_,rfl⟩
theorem WX.form {w:World} {v:Value} {n:Nat} {xs:List WR} (h:WX w v n xs):∃ A cap,v=.slice A n cap:=by
 obtain⟨_,A,cap,rfl,_⟩:=h
 exact⟨_,_,rfl⟩
theorem dI.nil:dI [] (.slice none 0 0) 0 []:=aB.nil _ 2
theorem dI.cells {N:aj} {v:Value} {n:Nat} {xs:List WR} (h:dI N v n xs):Cells N:=aB.cells' h

def WZ (w:World) (v:Value) (n:Nat) (zs:List Int):Prop:=WX w v n (zs.map wz)
def jG (c:Cx) (N:aj) (v:Value) (n:Nat) (zs:List Int):Prop:=RdX c N v n (zs.map wz)
def aG (N:aj) (v:Value) (n:Nat) (zs:List Int):Prop:=dI N v n (zs.map wz)
theorem WZ.len {w:World} {v:Value} {n:Nat} {xs:List Int} (h:WZ w v n xs):xs.length=n:=by simpa using WX.len h
theorem jG.len {c:Cx} {N:aj} {v:Value} {n:Nat} {xs:List Int} (h:jG c N v n xs):xs.length=n:=by simpa using RdX.len h
theorem aG.len {N:aj} {v:Value} {n:Nat} {xs:List Int} (h:aG N v n xs):xs.length=n:=by simpa using dI.len h
theorem WZ.mono {w w':World} {v:Value} {n:Nat} {xs:List Int} (h:WZ w v n xs) (hk:Kp [] w w'):WZ w' v n xs:=WX.mono h hk
theorem WZ.rd {c:Cx} {v:Value} {n:Nat} {xs:List Int} (h:WZ c.w0 v n xs) (hM:c.M=[]) (N:aj):jG c N v n xs:=WX.rd h hM N
theorem Qsu {c:Cx} {v:Value} {n:Nat} {xs:List Int} (h:WZ c.w0 v n xs) (hM:0<n→(dU v 0).block∉c.M) (N:aj):jG c N v n xs:=Qsv h hM N
theorem jG.at {c:Cx} {N H:aj} {w:World} {v:Value} {n:Nat} {xs:List Int} (h:jG c N v n xs) (hk:Kp c.M c.w0 w) (hs:aI H w) (hN:HSub N H):WZ w v n xs:=RdX.at h hk hs hN
theorem aG.rd {c:Cx} {N:aj} {v:Value} {n:Nat} {xs:List Int} (h:aG N v n xs):jG c N v n xs:=dI.rd h
theorem aG.new {N:aj} {v:Value} {n:Nat} {xs:List Int} {w w':World} (h:aG N v n xs) (hn:New N w w'):WZ w' v n xs:=dI.new h hn
theorem aG.form {N:aj} {v:Value} {n:Nat} {xs:List Int} (h:aG N v n xs):∃ A cap,v=.slice A n cap:=dI.form h
theorem WZ.form {w:World} {v:Value} {n:Nat} {xs:List Int} (h:WZ w v n xs):∃ A cap,v=.slice A n cap:=WX.form h
theorem aG.nil:aG [] (.slice none 0 0) 0 []:=dI.nil
theorem aG.cells {N:aj} {v:Value} {n:Nat} {xs:List Int} (h:aG N v n xs):Cells N:=dI.cells h
theorem Qau (zs:List Int) (i:Nat):(zs.map wz).getD i w0x=wz (zs.getD i 0):=by
 simp only[List.getD,List.getElem?_map]
 cases h:zs[i]? with
 | none=>exact eU.symm
 | some z=>rfl

theorem Qbh {e:TypeId} {N:aj} {n i:Nat} {v:Value} {cs:List Value} (h:aB e 2 N v n cs) (hi:i<n) :
  ∃ b cap cur,v=.slice (some ⟨b,0,none⟩) n cap∧N=[(b,.cells cur e (0,0))]∧i*2+2≤cur.size∧(∀ u u',aB e 2 [(b,.cells (Zy cur (i*2) [u,u']) e (0,0))] v n ((cs.set (i*2) u).set (i*2+1) u')):=by
 obtain⟨hl,⟨rfl,rfl,rfl⟩|⟨b,cap,cur,rfl,rfl,h2,h3,h4,h5⟩⟩:=h
 ·omega
 ·refine⟨b,cap,cur,rfl,rfl,by omega,fun u u'=>⟨by simpa using hl,.inr ⟨b,cap,_,rfl,rfl,h2,h3,?_,?_⟩⟩⟩
  ·rw[Q0j];exact h4
  ·rw[Zy,Zy,Zy,Array.toList_setIfInBounds,Array.toList_setIfInBounds, ← h5,List.take_set,List.take_set]

section
variable {c:Cx} {Q:Exit→Act→World→Prop} {m:Mode} {F:ak} {H:aj} {r:List dA} {g:Option (Option Tmp × Bool)} {ns:Bool} {d:Tmp} {ty t t':TypeId} {x y:Operand} {N:aj} {n:Nat} {v:Value}

theorem Q4h {e:TypeId} {xs:List WR} [dF c.P t e] (hd:Qx c.n (some d)=true:=by exact rfl) (hg:Qh F g=some true:=by exact rfl) (hx:ev F x=some v:=by exact rfl) (hv:RdX c N v n xs:=by(first|assumption|exact WX.rd (by assumption) rfl []|exact dI.rd (by assumption)))
  (h:JO c Q m r ((d,.int .i64 n)::F) H):JO c Q m (⟨some d,.call ⟨.builtin .len,#[x],#[t]⟩,ty,g,.bC,ns⟩::r) F H:=XP hd hg hx hv h
theorem Zv {e:TypeId} {xs:List Int} [dF c.P t e] (hd:Qx c.n (some d)=true:=by exact rfl) (hg:Qh F g=some true:=by exact rfl) (hx:ev F x=some v:=by exact rfl) (hv:jG c N v n xs:=by(first|assumption|exact WZ.rd (by assumption) rfl []|exact aG.rd (by assumption)))
  (h:JO c Q m r ((d,.int .i64 n)::F) H):JO c Q m (⟨some d,.call ⟨.builtin .len,#[x],#[t]⟩,ty,g,.bC,ns⟩::r) F H:=Q4h hd hg hx hv h
theorem Q62 {e:TypeId} {xs:List WR} {j:Nat} {k:IntKind} [dF c.P t e] [fU c.P e 2] (hd:Qx c.n (some d)=true:=by exact rfl) (hg:Qh F g=some true:=by exact rfl) (hx:ev F x=some v:=by exact rfl) (hy:ev F y=some (.int k j):=by exact rfl) (hv:RdX c N v n xs:=by(first|assumption|exact WX.rd (by assumption) rfl []|exact dI.rd (by assumption))) (hj:j<n:=by(first|assumption|omega))
  (h:JO c Q m r ((d,.pointer (some (dU v (j*2))))::F) H):JO c Q m (⟨some d,.indexAddr t x y,ty,g,.bC,ns⟩::r) F H:=Qgn hd hg hx hy hv hj h
theorem Zn {e:TypeId} {xs:List Int} {j:Nat} {k:IntKind} [dF c.P t e] [fU c.P e 2] (hd:Qx c.n (some d)=true:=by exact rfl) (hg:Qh F g=some true:=by exact rfl) (hx:ev F x=some v:=by exact rfl) (hy:ev F y=some (.int k j):=by exact rfl) (hv:jG c N v n xs:=by(first|assumption|exact WZ.rd (by assumption) rfl []|exact aG.rd (by assumption))) (hj:j<n:=by(first|assumption|omega))
  (h:JO c Q m r ((d,.pointer (some (dU v (j*2))))::F) H):JO c Q m (⟨some d,.indexAddr t x y,ty,g,.bC,ns⟩::r) F H:=Qgn hd hg hx hy hv hj h
theorem Qrf {xs:List WR} {i:Nat} [TN c.P t 2] (hd:Qx c.n (some d)=true:=by exact rfl) (hg:Qh F g=some true:=by exact rfl) (hx:ev F x=some (.pointer (some (dU v (i*2)))):=by exact rfl) (hl:m.live=true:=by exact rfl) (hv:RdX c N v n xs:=by(first|assumption|exact WX.rd (by assumption) rfl []|exact dI.rd (by assumption))) (hN:HSub N (m.src H):=by exact Q6) (hi:i<n:=by(first|assumption|omega))
  (h:JO c Q m r ((d,xv (xs.getD i w0x))::F) H):JO c Q m (⟨some d,.load t x,ty,g,.ld,ns⟩::r) F H:=by
 have hg2:=Q6v (xs:=xs) (i:=i) (by have:=hv.len;omega)
 refine Qrg hd hg hx hl hv hN oq (us:=#[.bool (xs.getD i w0x).1,sv (xs.getD i w0x).2]) rfl (fun j hj=>?_) h
 have hj:j<2:=hj
 have:j=0∨j=1:=by omega
 rcases this with rfl|rfl
 ·exact hg2.1
 ·exact hg2.2
theorem XD {xs:List Int} {i:Nat} [TN c.P t 2] (hd:Qx c.n (some d)=true:=by exact rfl) (hg:Qh F g=some true:=by exact rfl) (hx:ev F x=some (.pointer (some (dU v (i*2)))):=by exact rfl) (hl:m.live=true:=by exact rfl) (hv:jG c N v n xs:=by(first|assumption|exact WZ.rd (by assumption) rfl []|exact aG.rd (by assumption))) (hN:HSub N (m.src H):=by exact Q6) (hi:i<n:=by(first|assumption|omega))
  (h:JO c Q m r ((d,Wv (xs.getD i 0))::F) H):JO c Q m (⟨some d,.load t x,ty,g,.ld,ns⟩::r) F H :=
 Qrf hd hg hx hl hv hN hi (by rw[Qau];exact h)
theorem Qc7 {xs:List WR} {i:Nat} [T1 c.P t] (hd:Qx c.n (some d)=true:=by exact rfl) (hg:Qh F g=some true:=by exact rfl) (hx:ev F x=some (.pointer (some (dU v (i*2+1)))):=by exact rfl) (hl:m.live=true:=by exact rfl) (hv:RdX c N v n xs:=by(first|assumption|exact WX.rd (by assumption) rfl []|exact dI.rd (by assumption))) (hN:HSub N (m.src H):=by exact Q6) (hi:i<n:=by(first|assumption|omega))
  (h:JO c Q m r ((d,sv (xs.getD i w0x).2)::F) H):JO c Q m (⟨some d,.load t x,ty,g,.ld,ns⟩::r) F H :=
 Q1d hd hg hx hl hv hN (Q6v (by have:=hv.len;omega)).2 h
theorem Qre {xs:List WR} {i:Nat} [T1 c.P t] (hd:Qx c.n (some d)=true:=by exact rfl) (hg:Qh F g=some true:=by exact rfl) (hx:ev F x=some (.pointer (some (dU v (i*2+0)))):=by exact rfl) (hl:m.live=true:=by exact rfl) (hv:RdX c N v n xs:=by(first|assumption|exact WX.rd (by assumption) rfl []|exact dI.rd (by assumption))) (hN:HSub N (m.src H):=by exact Q6) (hi:i<n:=by(first|assumption|omega))
  (h:JO c Q m r ((d,.bool (xs.getD i w0x).1)::F) H):JO c Q m (⟨some d,.load t x,ty,g,.ld,ns⟩::r) F H :=
 Q1d hd hg hx hl hv hN (Q6v (by have:=hv.len;omega)).1 h
theorem Qk8 {s:TypeId} {f off i:Nat} [FA c.P s f off] {b o len cap:Nat} (hd:Qx c.n (some d)=true) (hg:Qh F g=some true) (hx:ev F x=some (.pointer (some (dU v i))))
  (h:JO c Q m r ((d,(.pointer (some (dU v (i+off)))))::F) H) (hv:v=.slice (some ⟨b,o,none⟩) len cap):JO c Q m (⟨some d,.fieldAddr s x f,ty,g,.bC,ns⟩::r) F H:=by
 subst hv
 exact Q4j hd hg hx (by rw[Nat.add_assoc];exact h)
theorem Q1e {s:TypeId} {f off i:Nat} {xs:List WR} [FA c.P s f off] (hd:Qx c.n (some d)=true:=by exact rfl) (hg:Qh F g=some true:=by exact rfl) (hx:ev F x=some (.pointer (some (dU v i))):=by exact rfl) (hv:RdX c N v n xs:=by(first|assumption|exact WX.rd (by assumption) rfl []|exact dI.rd (by assumption))) (hn:0<n:=by omega)
  (h:JO c Q m r ((d,(.pointer (some (dU v (i+off)))))::F) H):JO c Q m (⟨some d,.fieldAddr s x f,ty,g,.bC,ns⟩::r) F H:=by
 obtain⟨_,A,cap,rfl,_,hv⟩:=hv
 obtain⟨⟨b,o,rfl⟩,_⟩:=hv hn
 exact Qk8 hd hg hx h rfl
theorem Qta {A B:aj} {i:Nat} {u:WR} {xs:List WR} [TN c.P t 2] (hO:dI N v n xs) (hH:H=A++(N++B)) (hg:Qh F g=some true) (hm:m.aW ns r) (hx:ev F x=some (.pointer (some (dU v (i*2))))) (hy:ev F y=some (xv u))
  (hi:i<n) (h:∀ N',dI N' v n (xs.set i u)→JO c Q m.spent r F (A++(N'++B))):JO c Q m (⟨none,.store t x y,ty,g,.seq,ns⟩::r) F H:=by
 have hl:=hO.len
 obtain⟨b,cap,cur,rfl,rfl,h1,h2⟩:=Qbh hO hi
 subst hH
 simp only[Ww,Vu]at hx
 refine Q7a A.length (b:=b) (o:=i*2) (cs:=cur) (T:=35) (l:=[.bool u.1,sv u.2]) (TN.size (P:=c.P) (t:=t) (n:=2)) hg hm hx hy au rfl rfl rfl h1 ?_
 have:=h _ (by unfold dI;rw[← Qev oq];exact h2 (.bool u.1) (sv u.2))
 simpa using this
theorem Q27 {A B:aj} {i:Nat} {u:Int} {xs:List Int} [TN c.P t 2] (hO:aG N v n xs) (hH:H=A++(N++B)) (hg:Qh F g=some true) (hm:m.aW ns r) (hx:ev F x=some (.pointer (some (dU v (i*2))))) (hy:ev F y=some (Wv u))
  (hi:i<n) (h:∀ N',aG N' v n (xs.set i u)→JO c Q m.spent r F (A++(N'++B))):JO c Q m (⟨none,.store t x y,ty,g,.seq,ns⟩::r) F H :=
 Qta (u:=wz u) hO hH hg hm hx hy hi (fun N' h'=>h N' (by unfold aG;rw[List.map_set];exact h'))

theorem Qc3 {e:TypeId} {l h':Nat} {xs:List WR} {lo hi:Option Operand} {vl vh:Option Value} [dF c.P t e] [fU c.P e 2] (hd:Qx c.n (some d)=true) (hg:Qh F g=some true)
  (hx:ev F x=some v) (hv:RdX c N v n xs)
  (hlo:(lo.bind (ev F))=vl) (hlo':lo.isSome=vl.isSome) (hl:vl=some (.int .i64 l)∨(vl=none∧l=0)) (hhi:(hi.bind (ev F))=vh) (hhi':hi.isSome=vh.isSome) (hh:vh=some (.int .i64 h')∨(vh=none∧h'=n))
  (hlh:l≤h') (hhl:h'≤n)
  (h:∀ v',RdX c N v' (h'-l) ((xs.drop l).take (h'-l))→(∀ i,l<h'→dU v' i=dU v (l*2+i))→JO c Q m r ((d,v')::F) H):JO c Q m (⟨some d,.slice t x lo hi none,ty,g,.bC,ns⟩::r) F H :=
 Qk4 hd hg hx hv hlo hlo' hl hhi hhi' hh hlh hhl (fun v' h1 h2=>h v' (by
  unfold RdX
  rw[← Q3d, ← Q3e]
  exact h1) h2)
theorem Q7b {e:TypeId} {l h':Nat} {xs:List Int} {lo hi:Option Operand} {vl vh:Option Value} [dF c.P t e] [fU c.P e 2] (hd:Qx c.n (some d)=true) (hg:Qh F g=some true)
  (hx:ev F x=some v) (hv:jG c N v n xs)
  (hlo:(lo.bind (ev F))=vl) (hlo':lo.isSome=vl.isSome) (hl:vl=some (.int .i64 l)∨(vl=none∧l=0)) (hhi:(hi.bind (ev F))=vh) (hhi':hi.isSome=vh.isSome) (hh:vh=some (.int .i64 h')∨(vh=none∧h'=n))
  (hlh:l≤h') (hhl:h'≤n)
  (h:∀ v',jG c N v' (h'-l) ((xs.drop l).take (h'-l))→(∀ i,l<h'→dU v' i=dU v (l*2+i))→JO c Q m r ((d,v')::F) H):JO c Q m (⟨some d,.slice t x lo hi none,ty,g,.bC,ns⟩::r) F H :=
 Qc3 hd hg hx hv hlo hlo' hl hhi hhi' hh hlh hhl (fun v' h1 h2=>h v' (by
  unfold jG
  rw[List.map_take,List.map_drop]
  exact h1) h2)
theorem Qr4 {e:TypeId} {i k:Nat} {xs:List WR} {lo hi:Operand} [dF c.P t e] [fU c.P e 2] (hd:Qx c.n (some d)=true) (hg:Qh F g=some true)
  (hx:ev F x=some v) (hv:RdX c N v n xs) (hlo:ev F lo=some (nv (i*k))) (hhi:ev F hi=some (nv ((i+1)*k))) (hle:(i+1)*k≤n)
  (h:∀ v',RdX c N v' k ((xs.drop (i*k)).take k)→(∀ j,j<k→dU v' (j*2)=dU v ((i*k+j)*2))→JO c Q m r ((d,v')::F) H):JO c Q m (⟨some d,.slice t x (some lo) (some hi) none,ty,g,.bC,ns⟩::r) F H:=by
 have e1:(i+1)*k-i*k=k:=by rw[Vo];omega
 refine Qc3 (l:=i*k) (h':=(i+1)*k) hd hg hx hv hlo rfl (.inl rfl) hhi rfl (.inl rfl) (V1 k oq) hle (fun v' h1 h2=>h v' (by rw[e1]at h1;exact h1) (fun j hj=>by
  rw[h2 _ (by rw[Vo];omega),Vo]))
theorem Qgh {e:TypeId} {i k:Nat} {xs:List Int} {lo hi:Operand} [dF c.P t e] [fU c.P e 2] (hd:Qx c.n (some d)=true) (hg:Qh F g=some true)
  (hx:ev F x=some v) (hv:jG c N v n xs) (hlo:ev F lo=some (nv (i*k))) (hhi:ev F hi=some (nv ((i+1)*k))) (hle:(i+1)*k≤n)
  (h:∀ v',jG c N v' k ((xs.drop (i*k)).take k)→(∀ j,j<k→dU v' (j*2)=dU v ((i*k+j)*2))→JO c Q m r ((d,v')::F) H):JO c Q m (⟨some d,.slice t x (some lo) (some hi) none,ty,g,.bC,ns⟩::r) F H :=
 Qr4 hd hg hx hv hlo hhi hle (fun v' h1 h2=>h v' (by unfold jG;rw[List.map_take,List.map_drop];exact h1) h2)

theorem Qgq {A B N2:aj} {v2:Value} {k:Nat} {xs ys:List WR} [dF c.P t 35] [TE c.P 35 2 24 #[.bool false,.string ⟨#[]⟩]] (hO:dI N v n xs) (h2:RdX c N2 v2 k ys) (fA:HSub N2 H) (hH:H=A++(N++B)) (hm:m.aW ns r) (hd:Qx c.n (some d)=true) (hg:Qh F g=some true) (hx:ev F x=some v) (hy:ev F y=some v2)
  (hb:n+k≤1000000000) (h:∀ v' N',dI N' v' (n+k) (xs++ys)→JO c Q m.spent r ((d,v')::F) (A++(N'++B))) :
  JO c Q m (⟨some d,.call ⟨.builtin .append,#[x,y],#[t,t]⟩,ty,g,.seq,ns⟩::r) F H :=
 XR (e:=35) (sz:=2) (bytes:=24) (zc:=#[.bool false,.string ⟨#[]⟩]) (xs:=iE xs) (news:=iE ys) (n:=n) (mm:=k) rfl hO h2 fA hH hm hd hg hx hy (fun u hu=>Qa8 u hu) (by simp only[maxLen];omega) oq (fun v' N' h'=>h v' N' (by unfold dI;rw[Q1z];exact h'))
theorem Qec {A B N2 Hs:aj} {v2:Value} {k:Nat} {xs ys:List WR} [dF c.P t 35] [TE c.P 35 2 24 #[.bool false,.string ⟨#[]⟩]] (hO:dI N v n xs) (h2:RdX c N2 v2 k ys) (fA:HSub N2 H) (hH:H=A++(N++B)) (hm:HSub Hs (A++B)) (hd:Qx c.n (some d)=true) (hg:Qh F g=some true) (hx:ev F x=some v) (hy:ev F y=some v2)
  (hb:n+k≤1000000000) (h:∀ v' N',dI N' v' (n+k) (xs++ys)→JO c Q (.draw Hs true) r ((d,v')::F) (A++(N'++B))) :
  JO c Q (.draw Hs true) (⟨some d,.call ⟨.builtin .append,#[x,y],#[t,t]⟩,ty,g,.seq,ns⟩::r) F H :=
 Qgs (e:=35) (sz:=2) (bytes:=24) (zc:=#[.bool false,.string ⟨#[]⟩]) (xs:=iE xs) (news:=iE ys) (n:=n) (mm:=k) rfl hO h2 fA hH hm hd hg hx hy (fun u hu=>Qa8 u hu) (by simp only[maxLen];omega) oq (fun v' N' h'=>h v' N' (by unfold dI;rw[Q1z];exact h'))
theorem Y3 {A B N2:aj} {v2:Value} {k:Nat} {xs ys:List Int} [dF c.P t 35] [TE c.P 35 2 24 #[.bool false,.string ⟨#[]⟩]] (hO:aG N v n xs) (h2:jG c N2 v2 k ys) (fA:HSub N2 H) (hH:H=A++(N++B)) (hm:m.aW ns r) (hd:Qx c.n (some d)=true) (hg:Qh F g=some true) (hx:ev F x=some v) (hy:ev F y=some v2)
  (hb:n+k≤1000000000) (h:∀ v' N',aG N' v' (n+k) (xs++ys)→JO c Q m.spent r ((d,v')::F) (A++(N'++B))) :
  JO c Q m (⟨some d,.call ⟨.builtin .append,#[x,y],#[t,t]⟩,ty,g,.seq,ns⟩::r) F H :=
 Qgq hO h2 fA hH hm hd hg hx hy hb (fun v' N' h'=>h v' N' (by unfold aG;rw[Vl];exact h'))
theorem WM {A B N2 Hs:aj} {v2:Value} {k:Nat} {xs ys:List Int} [dF c.P t 35] [TE c.P 35 2 24 #[.bool false,.string ⟨#[]⟩]] (hO:aG N v n xs) (h2:jG c N2 v2 k ys) (fA:HSub N2 H) (hH:H=A++(N++B)) (hm:HSub Hs (A++B)) (hd:Qx c.n (some d)=true) (hg:Qh F g=some true) (hx:ev F x=some v) (hy:ev F y=some v2)
  (hb:n+k≤1000000000) (h:∀ v' N',aG N' v' (n+k) (xs++ys)→JO c Q (.draw Hs true) r ((d,v')::F) (A++(N'++B))) :
  JO c Q (.draw Hs true) (⟨some d,.call ⟨.builtin .append,#[x,y],#[t,t]⟩,ty,g,.seq,ns⟩::r) F H :=
 Qec hO h2 fA hH hm hd hg hx hy hb (fun v' N' h'=>h v' N' (by unfold aG;rw[Vl];exact h'))
end

section
variable {c:Cx} {Q:Exit→Act→World→Prop} {m:Mode} {F:ak} {H:aj} {r:List dA} {g:Option (Option Tmp × Bool)} {ns:Bool} {d:Tmp} {ty t:TypeId} {x y:Operand}
theorem Qrb {x1 x2 x3 x4:Operand} {k:IntKind} {i1 i2 i3 i4:Int} {ts:Array TypeId} (hd:Qx c.n (some d)=true) (hg:Qh F g=some true) (h1:ev F x1=some (.int k i1)) (h2:ev F x2=some (.int k i2)) (h3:ev F x3=some (.int k i3)) (h4:ev F x4=some (.int k i4))
  (h:∀ q:Int,(q=i1∨q=i2∨q=i3∨q=i4)→q≤i1∧q≤i2∧q≤i3∧q≤i4→JO c Q m r ((d,(.int k q))::F) H):JO c Q m (⟨some d,.call ⟨.builtin .min,#[x1,x2,x3,x4],ts⟩,ty,g,.bC,ns⟩::r) F H :=
 Yb (v:=.int k (if i4<(if i3<(if i2<i1 then i2 else i1) then i3 else (if i2<i1 then i2 else i1)) then i4 else (if i3<(if i2<i1 then i2 else i1) then i3 else (if i2<i1 then i2 else i1)))) hd hg (fun a w fr=>by
  simp[execOp,resolve,invoke,builtin,fr.ev h1,fr.ev h2,fr.ev h3,fr.ev h4,Builtin.min_,Builtin.min2]) (h _ (by split<;>split<;>split<;>simp) (by split<;>split<;>split<;>omega))
theorem Q7h {a b:Int} [TSt c.P t #[iv 0,iv 0,.slice none 0 0] #[(0,1),(1,1),(2,1)]] (hd:Qx c.n (some d)=true:=by exact rfl) (hg:Qh F g=some true:=by exact rfl) (hx:ev F x=some (iv a):=by exact rfl) (hy:ev F y=some (iv b):=by exact rfl)
  (h:JO c Q m r ((d,.agg #[iv a,iv b,.slice none 0 0])::F) H):JO c Q m (⟨some d,.build t #[(0,x),(1,y)],ty,g,.bC,ns⟩::r) F H :=
 ZP (l:=[(0,iv a),(1,iv b)]) (cs:=#[iv a,iv b,.slice none 0 0]) hd hg (by simp[Xl,hx,hy]) rfl h
end

theorem Qeu:∀ n:Nat,iE ((tab n fun _=>(0:Int)).map wz)=(Z1 #[.bool false,.string ⟨#[]⟩] (n*2)).toList
 | 0=>by simp[tab,iE,Z1]
 | n + 1 => by
  have h1:(tab (n+1) fun _=>(0:Int))=tab n (fun _=>0)++[0]:=by simp[tab,List.range_succ]
  have h2:∀ k,(Z1 #[Value.bool false,.string ⟨#[]⟩] (k*2)).toList=(List.range (k*2)).map fun i=>#[Value.bool false,Value.string ⟨#[]⟩][i % 2]!:=fun k=>by
   unfold Z1
   rw[Array.toList_map,Array.toList_range]
   rfl
  rw[h1,Vl,Q1z,Qeu n,h2,h2,show (n+1)*2=n*2+1+1 by omega,List.range_succ,List.range_succ,Vl,Vl,Vd]
  congr 1
  show xc (wz 0)=[#[Value.bool false,Value.string ⟨#[]⟩][(n*2) % 2]!,#[Value.bool false,Value.string ⟨#[]⟩][(n*2+1) % 2]!]
  rw[eU,show (n*2) % 2=0 by omega,show (n*2+1) % 2=1 by omega]
  rfl
theorem Xc (b n:Nat) (hn:n≤maxLen):aG [(b,.cells (Z1 #[.bool false,.string ⟨#[]⟩] (n*2)) 35)] (.slice (some ⟨b,0,none⟩) n n) n (tab n fun _=>0):=by
 have h:=aB.mk' (e:=35) (sz:=2) (n:=n) (b:=b) (cs:=Z1 #[.bool false,.string ⟨#[]⟩] (n*2)) (by unfold Z1;simp) hn
 unfold aG dI
 rw[Qeu]
 exact h


def eX (q:Prop) (v:Value):Prop:=∃ b:Bool,v=.bool b∧(b=true↔q)
theorem eX.t {q:Prop} (h:q):eX q (.bool true):=⟨true,rfl,by simp[h]⟩
theorem eX.f {q:Prop} (h:¬q):eX q (.bool false):=⟨false,rfl,by simp[h]⟩
theorem eX.d {q:Prop} [Decidable q]:eX q (.bool (decide q)):=⟨_,rfl,by simp⟩

def gZ (x:WR):Bool:=(decide (x.2=[]) && x.1) || (match x.2 with|[]=>false|a::_=>decide (a=0))

theorem Q5o {l:List UInt8} (h:l.dropWhile (· == 0)=l):∀ a r,l=a::r→a≠0:=by
 rintro a r rfl rfl
 rw[List.dropWhile]at h
 simp only[BEq.rfl]at h
 have h1:(r.dropWhile (· == 0)).length≤r.length:=(List.dropWhile_sublist _).length_le
 rw[h,List.length_cons]at h1
 omega
theorem Qkp (n:Nat):(bD n).dropWhile (· == 0)=bD n:=by rw[Q7p,Qa3]
theorem Qp0 (z:Int):gZ (wz z)=false:=by
 unfold gZ wz
 simp only
 by_cases h:z=0
 ·subst h
  rw[show bD (0:Int).natAbs=[] from YK.2 rfl]
  rfl
 ·have h1:bD z.natAbs≠[]:=fun e=>h (by have:=YK.1 e;omega)
  rw[decide_eq_false h1]
  cases hm:bD z.natAbs with
  | nil=>exact absurd hm h1
  | cons a r =>
   have:=Q5o (Qkp z.natAbs) a r hm
   simp[this]
theorem Qp1 {x:WR} (h:gZ x=false):∃ z,x=wz z:=by
 obtain⟨p,l⟩:=x
 unfold gZ at h
 simp only[Bool.or_eq_false_iff]at h
 obtain⟨h1,h2⟩:=h
 cases l with
 | nil =>
  have hp:p=false:=by simpa using h1
  subst hp
  exact⟨0,eU.symm⟩
 | cons a r =>
  have ha:a≠0:=by simpa using h2
  have hf:(a::r).dropWhile (· == 0)=a::r:=by
   rw[List.dropWhile]
   have:(a == 0)=false:=by simpa using ha
   rw[this]
  rw[Q7p]at hf
  have hn:bW (dQ (a::r))≠0:=fun e=>by
   rw[e,YK.2 rfl]at hf
   cases hf
  refine⟨bQ p (bW (dQ (a::r))),?_⟩
  unfold wz
  rw[Qg1,YE,hf]
  simp[hn]
theorem Q9i:∀ {xs:List WR},(∀ x∈xs,gZ x=false)→∃ zs:List Int,xs=zs.map wz
 | [],_=>⟨[],rfl⟩
 | x::r,h=>by
  obtain⟨z,rfl⟩:=Qp1 (h x au)
  obtain⟨zs,rfl⟩:=Q9i (xs:=r) (fun y hy=>h y (by simp[hy]))
  exact⟨z::zs,rfl⟩
structure XM where
 R:Int
 C:Int
 E:List WR
structure ZM where
 r:Nat
 c:Nat
 e:List Int
def ZM.xm (m:ZM):XM:=⟨m.r,m.c,m.e.map wz⟩
structure cO (m:ZM):Prop where
 r:m.r≤200
 c:m.c≤200
 len:m.e.length=m.r*m.c
def RX (a:XM):Prop:=∃ m,cO m∧a=m.xm
def IsX (w:World) (v:Value) (a:XM):Prop:=∃ E,v=.agg #[iv a.R,iv a.C,E]∧WX w E a.E.length a.E
def fO (w:World) (v:Value) (m:ZM):Prop:=∃ E,v=.agg #[nv m.r,nv m.c,E]∧WZ w E m.e.length m.e
def fZ (N:aj) (v:Value) (m:ZM):Prop:=∃ E,v=.agg #[nv m.r,nv m.c,E]∧aG N E m.e.length m.e
theorem IsX.mono {w w':World} {v:Value} {a:XM} (h:IsX w v a) (hk:Kp [] w w'):IsX w' v a:=by
 obtain⟨E,rfl,h⟩:=h
 exact⟨E,rfl,h.mono hk⟩
theorem fO.mono {w w':World} {v:Value} {m:ZM} (h:fO w v m) (hk:Kp [] w w'):fO w' v m:=by
 obtain⟨E,rfl,h⟩:=h
 exact⟨E,rfl,h.mono hk⟩
theorem fO.x {w:World} {v:Value} {m:ZM} (h:fO w v m):IsX w v m.xm:=by
 obtain⟨E,rfl,h⟩:=h
 exact⟨E,rfl,by unfold WZ at h;simpa [ZM.xm] using h⟩
theorem fZ.new {N:aj} {v:Value} {m:ZM} {w w':World} (h:fZ N v m) (hn:New N w w'):fO w' v m:=by
 obtain⟨E,rfl,h⟩:=h
 exact⟨E,rfl,h.new hn⟩
theorem fZ.mk' {N:aj} {r c n:Nat} {E:Value} {e:List Int} (h:aG N E n e):fZ N (.agg #[nv r,nv c,E]) ⟨r,c,e⟩:=⟨E,rfl,by have:=h.len;subst this;exact h⟩
def Qn8:Value:=.agg #[iv 0,iv 0,.slice none 0 0]
def Q36 (m:ZM) (w:World) (v:Value) (w':World):Prop:=∃ N,New N w w'∧fZ N v m
def Q5m (m:ZM) (b:Bool) (w:World) (v:Value) (w':World):Prop:=∃ N u,v=.tuple #[u,.bool b]∧New N w w'∧fZ N u m
def zM:ZM:=⟨0,0,[]⟩
theorem fZ.zero:fZ [] Qn8 zM:=⟨_,rfl,aG.nil⟩
theorem cO.le {m:ZM} (h:cO m):m.e.length≤40000:=by rw[h.len];exact Vr h.r h.c
theorem cO.rx {m:ZM} (h:cO m):RX m.xm:=⟨m,h,rfl⟩
theorem rcZ {r c:Nat} (hr:r≤200) (hc:c≤200):r*c≤40000:=Vr hr hc

theorem Qiw (r c:Int) (w:World):Calls Tryz.prog 88 #[.int .i64 r,.int .i64 c] w (aP fun v w'=>Kp [] w w'∧eX (0≤r∧r≤200∧0≤c∧c≤200) v):=by
 refine Q9 [] [] au [] Tryz.func88 rfl mixed (by kernel_rfl) Tryz.ntmps88 Tryz.results88 rfl ⟨by simp,by simp⟩ au ?_
 simp only[toS,Qd,Qt,Qk,Ql,ay,Qg,QA,aC]
 repeat' first|apply jS|apply jO|apply jN|apply jT|refine Q1 ?_|refine Q0 ?_|refine Qea (h:=?_)|refine Qrc (h:=?_)|refine QD (h:=?_)|refine QC (h:=?_)|(refine Q7f (h1:=?_) (h2:=?_)<;>intro hc<;>try omega)|(refine Yx (h1:=?_) (h2:=?_)<;>intro hc<;>try omega)|refine QU (h:=?_)|apply jR
 all_goals first
  | exact Qn rfl (fun a w st=>⟨st.kp,eX.t (by split at * <;> omega)⟩)
  | exact Qn rfl (fun a w st=>⟨st.kp,eX.f (by split at * <;> omega)⟩)

theorem Qpk (w:World) (x:WR):Calls Tryz.prog 113 #[xv x] w (aP fun v w'=>Kp [] w w'∧v=.bool (decide (x.2=[]))):=by
 refine Q9 [] [] au [] Tryz.func113 rfl mixed (by kernel_rfl) Tryz.ntmps113 Tryz.results113 rfl ⟨by simp,by simp⟩ au ?_
 simp only[toS,Qd,Qt,Qk,Ql,ay,Qg,QA,aC]
 repeat' first|apply jS|apply jO|apply jN|apply jT|refine Q3 ?_|refine Q0 ?_|refine Qb ?_|refine Qk9 (h:=?_)|refine QB fun _=>?_|apply jR
 exact Qn rfl (fun a w st=>⟨st.kp,rfl⟩)
theorem Qhe {z:Int}:bD z.natAbs=[]↔z=0:=by rw[YK];omega
theorem Qii (w:World) (z:Int):Calls Tryz.prog 113 #[Wv z] w (aP fun v w'=>Kp [] w w'∧v=.bool (decide (z=0))):=by
 have h:=Qpk w (wz z)
 have e:(decide ((wz z).2=[]):Bool)=decide (z=0):=by
  rw[decide_eq_decide];exact Qhe
 rw[e]at h
 exact h

theorem Q9y (w:World) (x:WR):Calls Tryz.prog 128 #[xv x] w (aP fun v w'=>Kp [] w w'∧v=.bool (gZ x)):=by
 obtain⟨p,l⟩:=x
 cases l with
 | nil =>
  cases p
  ·refine Q9 [] [] au [] Tryz.func128 rfl mixed (by kernel_rfl) Tryz.ntmps128 Tryz.results128 rfl ⟨by simp,by simp⟩ au ?_
   simp only[toS,Qd,Qt,Qk,Ql,ay,Qg,QA,aC]
   repeat' first|apply jS|apply jO|apply jN|apply jT|refine Q1 ?_|refine Q3 ?_|refine Q0 ?_|refine Qb ?_|refine QD (h:=?_)|refine QC (h:=?_)|refine Qgo (h:=?_)|refine Qr6 (h:=?_)|refine QB fun _=>?_|refine QU (h:=?_)|apply jR
   exact Qn rfl (fun a w st=>⟨st.kp,rfl⟩)
  ·refine Q9 [] [] au [] Tryz.func128 rfl mixed (by kernel_rfl) Tryz.ntmps128 Tryz.results128 rfl ⟨by simp,by simp⟩ au ?_
   simp only[toS,Qd,Qt,Qk,Ql,ay,Qg,QA,aC]
   repeat' first|apply jS|apply jO|apply jN|apply jT|refine Q1 ?_|refine Q3 ?_|refine Q0 ?_|refine Qb ?_|refine QD (h:=?_)|refine Qgo (h:=?_)|refine QB fun _=>?_|refine QU (h:=?_)|apply jR
   exact Qn rfl (fun a w st=>⟨st.kp,rfl⟩)
 | cons a r =>
  refine Q9 [] [] au [] Tryz.func128 rfl mixed (by kernel_rfl) Tryz.ntmps128 Tryz.results128 rfl ⟨by simp,by simp⟩ au ?_
  simp only[toS,Qd,Qt,Qk,Ql,ay,Qg,QA,aC]
  repeat' first|apply jS|apply jO|apply jN|apply jT|refine Q1 ?_|refine Q3 ?_|refine Q0 ?_|refine Qb ?_|refine QD (h:=?_)|refine QC (h:=?_)|refine Q4i (h:=?_)|refine Qm9 (h:=?_)|refine Qr7 (h:=?_)|(refine Z9 (h1:=?_) (h2:=?_)<;>intro hc<;>try omega)|refine QB fun _=>?_|refine QU (h:=?_)|apply jR
  ·exact Qn rfl (fun _ w st=>⟨st.kp,by have:a=0:=UInt8.toNat.inj (by simpa using hc);subst this;rfl⟩)
  ·exact Qn rfl (fun _ w st=>⟨st.kp,by have:a≠0:=fun e=>hc (by subst e;rfl);simp[gZ,this]⟩)

theorem Qa1 {f:FuncId} [TF Tryz.prog f] {fst cap:Array Value} (pred:WR→Bool) (w:World) (E:Value) (n:Nat) (xs:List WR) (hE:WX w E n xs) (hn:n<9223372036854775807)
  (hcl:∀ x w',Kp [] w w'→Calls Tryz.prog f (fst++#[xv x]++cap) w' (aP fun v w''=>Kp [] w' w''∧v=.bool (pred x))) :
  Calls Tryz.prog 151 #[E,.func (.func f) fst cap] w (aP fun v w'=>Kp [] w w'∧∃ i:Int,v=iv i∧(0≤i↔∃ x∈xs,pred x=true)):=by
 refine Q9 [] [] au [] Tryz.func151 rfl mixed (by kernel_rfl) Tryz.ntmps151 Tryz.results151 rfl ⟨by simp,by simp⟩ au ?_
 simp only[toS,Qd,Qt,Qk,Ql,ay,Qg,QA,aC]
 have hR:=WX.rd (c:=⟨Tryz.prog,19,w,[],by simp⟩) hE rfl []
 repeat' first|apply jS|apply jO|apply jN|apply jT|refine Q1 ?_|refine Q0 ?_|refine Q4h (h:=?_)|apply jB
 refine Qp (ι:=Nat) ⟨fun k=>[(8,nv k),(7,nv n),(0,E),(1,.func (.func f) fst cap)],fun _=>[],fun k=>k≤n∧∀ i,i<k→pred (xs.getD i w0x)=false,fun k=>n-k⟩ 0 ⟨by omega,fun i h=>by omega⟩ ⟨rfl,rfl,rfl,rfl,trivial⟩ (HSub.nil _) (fun k hk=>?_)
 obtain⟨hkn,hpr⟩:=hk
 dsimp only
 repeat' first|apply jS|apply jO|apply jN|apply jT|refine Q1 ?_|refine Q0 ?_|refine Q62 (h:=?_)|refine Qrf (h:=?_)|(refine Qs (h1:=?_) (h2:=?_)<;>intro hc<;>try omega)|apply jU|apply jK|apply jE|apply jR|refine Q8 rfl ?_|refine Q4 rfl ?_|apply jB|apply Qe
 ·refine Qcd trivial rfl rfl rfl rfl (fun w' hk _=>hcl _ w' hk) fun w v w' _ _ _ hv=>?_
  subst hv
  cases hp:pred (xs.getD k w0x)
  ·repeat' first|apply jO|apply jN|apply jT|refine Q1 ?_|refine Qj ?_|apply jK|refine Q4 rfl ?_|apply jW
   refine Qa (k+1) ⟨by omega,fun i h=>?_⟩ aY ⟨rfl,rfl,rfl,rfl,trivial⟩ (HSub.nil _)
   rcases Nat.lt_or_ge i k with h'|h'
   ·exact hpr i h'
   ·have:i=k:=by omega
    subst this;exact hp
  ·repeat' first|apply jS|apply jO|apply jN|apply jT|refine Q1 ?_|refine Q0 ?_|apply jV|apply jR|refine Q8 rfl ?_|apply QT
   exact Qn rfl (fun a w' st=>⟨st.kp,k,rfl,⟨fun _=>⟨_,YA (by rw[hR.len];omega),hp⟩,fun _=>by omega⟩⟩)
 ·exact Qn rfl (fun a w' st=>⟨st.kp,-1,rfl,⟨fun h=>by omega,fun⟨x,hx,hp⟩=>by
   obtain⟨i,hi,rfl⟩:=List.mem_iff_getElem.1 hx
   have:=hpr i (by rw[hR.len]at hi;omega)
   simp only[List.getD,List.getElem?_eq_getElem hi,Option.getD_some]at this
   rw[this]at hp;cases hp⟩⟩)

theorem Q5g {f:FuncId} [TF Tryz.prog f] {fst cap:Array Value} (pred:WR→Bool) (w:World) (E:Value) (n:Nat) (xs:List WR) (hE:WX w E n xs) (hn:n<9223372036854775807)
  (hcl:∀ x w',Kp [] w w'→Calls Tryz.prog f (fst++#[xv x]++cap) w' (aP fun v w''=>Kp [] w' w''∧v=.bool (pred x))) :
  Calls Tryz.prog 127 #[E,.func (.func f) fst cap] w (aP fun v w'=>Kp [] w w'∧eX (∃ x∈xs,pred x=true) v):=by
 refine Q9 [] [] au [] Tryz.func127 rfl mixed (by kernel_rfl) Tryz.ntmps127 Tryz.results127 rfl ⟨by simp,by simp⟩ au ?_
 simp only[toS,Qd,Qt,Qk,Ql,ay,Qg,QA,aC]
 repeat' first|apply jS|apply jO|apply jN|refine Q1 ?_|refine Q0 ?_|apply jT
 refine Q5 trivial rfl rfl rfl (fun w' hk _=>Qa1 pred w' E n xs (hE.mono hk) hn (fun x w'' hk'=>hcl x w'' (hk.trans hk'))) fun w v w' _ _ _ hv=>?_
 obtain⟨i,rfl,hi⟩:=hv
 repeat' first|apply jN|apply jT|refine Q0 ?_|(refine Yx (h1:=?_) (h2:=?_)<;>intro hc<;>try omega)|apply jR
 all_goals refine Qn rfl (fun a w' st=>⟨st.kp,?_⟩)
 ·exact eX.t (hi.1 oq)
 ·exact eX.f (fun h=>hc (hi.2 h))

def Canon (xs:List WR):Prop:=∃ zs:List Int,xs=zs.map wz
theorem Q5c {xs:List WR}:Canon xs↔¬∃ x∈xs,gZ x=true:=by
 constructor
 ·rintro⟨zs,rfl⟩ ⟨x,hx,hb⟩
  obtain⟨z,_,rfl⟩:=List.mem_map.1 hx
  rw[Qp0]at hb;cases hb
 ·intro h
  exact Q9i fun x hx=>by
   cases hb:gZ x with
   | false=>rfl
   | true=>exact absurd ⟨x,hx,hb⟩ h

theorem Qbc (w:World) (E:Value) (n:Nat) (xs:List WR) (hE:WX w E n xs) (hn:n<9223372036854775807) :
  Calls Tryz.prog 89 #[E] w (aP fun v w'=>Kp [] w w'∧eX (Canon xs) v):=by
 refine Q9 [] [] au [] Tryz.func89 rfl mixed (by kernel_rfl) Tryz.ntmps89 Tryz.results89 rfl ⟨by simp,by simp⟩ au ?_
 simp only[toS,Qd,Qt,Qk,Ql,ay,Qg,QA,aC]
 repeat' first|apply jS|apply jO|apply jN|refine Q1 ?_|refine Q0 ?_|apply jT
 refine Q5 trivial rfl rfl rfl (fun w' hk _=>Q5g (f:=128) (fst:=#[]) (cap:=#[]) gZ w' E n xs (hE.mono hk) hn (fun x w'' _=>Q9y w'' x)) fun w v w' _ _ _ hv=>?_
 obtain⟨b,rfl,hb⟩:=hv
 repeat' first|apply jN|apply jT|refine Q0 ?_|refine QV (h:=?_)|apply jR
 refine Qn rfl (fun a w' st=>⟨st.kp,_,rfl,?_⟩)
 rw[Q5c, ← hb]
 cases b<;>simp

theorem Qn6 {r c:Nat} {E:List WR} (hr:r≤200) (hc:c≤200):RX ⟨r,c,E⟩↔E.length=r*c∧Canon E:=by
 constructor
 ·rintro⟨⟨r',c',e⟩,hm,he⟩
  simp only[ZM.xm,XM.mk.injEq]at he
  obtain⟨h2,h3,rfl⟩:=he
  have h2:r=r':=by omega
  have h3:c=c':=by omega
  subst h2 h3
  exact⟨by simpa using hm.len,e,rfl⟩
 ·rintro⟨hl,zs,rfl⟩
  exact⟨⟨r,c,zs⟩,⟨hr,hc,by simpa using hl⟩,rfl⟩
theorem RX.fits {a:XM} (h:RX a):0≤a.R∧a.R≤200∧0≤a.C∧a.C≤200:=by
 obtain⟨m,hm,rfl⟩:=h
 have h1:=hm.r
 have h2:=hm.c
 simp only[ZM.xm]
 omega

theorem YY (w:World) (v:Value) (a:XM) (ha:IsX w v a) (hl:a.E.length<9223372036854775807):Calls Tryz.prog 47 #[v] w (aP fun v w'=>Kp [] w w'∧eX (RX a) v):=by
 obtain⟨E,rfl,hE⟩:=ha
 by_cases hf:0≤a.R∧a.R≤200∧0≤a.C∧a.C≤200
 ·obtain⟨R,C,xs⟩:=a
  obtain⟨h1,h2,h3,h4⟩:=hf
  dsimp only at *
  obtain⟨r,rfl⟩:=Int.eq_ofNat_of_zero_le h1
  obtain⟨c,rfl⟩:=Int.eq_ofNat_of_zero_le h3
  have hr:r≤200:=by omega
  have hc:c≤200:=by omega
  have hrc:=rcZ hr hc
  have hiff:=Qn6 (E:=xs) hr hc
  refine Q9 [] [] au [] Tryz.func47 rfl mixed (by kernel_rfl) Tryz.ntmps47 Tryz.results47 rfl ⟨by simp,by simp⟩ au ?_
  simp only[toS,Qd,Qt,Qk,Ql,ay,Qg,QA,aC]
  have hR:=WX.rd (c:=⟨Tryz.prog,24,w,[],by simp⟩) hE rfl []
  repeat' first|apply jS|apply jO|apply jN|refine Q3 ?_|refine Q0 ?_|refine Qb ?_|refine QB fun _=>?_|apply jT
  refine Q5 trivial rfl rfl rfl (fun w _ _=>Qiw r c w) fun w v w' _ _ _ hv=>?_
  obtain⟨b',rfl,hb⟩:=hv
  obtain rfl:=hb.2 ⟨h1,h2,h3,h4⟩
  repeat' first|apply jN|apply jT|refine Q1 ?_|refine Q3 ?_|refine Q0 ?_|refine Qb ?_|refine Q4h (h:=?_)|refine ZK (h:=?_)|refine QD (h:=?_)|refine QC (h:=?_)|(refine Z9 (h1:=?_) (h2:=?_)<;>intro hc<;>try omega)|refine QU (h:=?_)|apply jR
  ·refine Q5 trivial rfl rfl rfl (fun w' hk hs=>Qbc w' E _ _ (hE.mono hk) hl) fun w v w' _ _ _ hv=>?_
   obtain⟨b',rfl,hb⟩:=hv
   repeat' first|apply jN|apply jT|refine Q0 ?_|refine QD (h:=?_)|apply jR
   exact Qn rfl (fun a w' st=>⟨st.kp,b',rfl,hb.trans ⟨fun h=>hiff.2 ⟨by omega,h⟩,fun h=>(hiff.1 h).2⟩⟩)
  ·exact Qn rfl (fun a w' st=>⟨st.kp,eX.f (fun h=>hc (by have:=(hiff.1 h).1;omega))⟩)
 ·refine Q9 [] [] au [] Tryz.func47 rfl mixed (by kernel_rfl) Tryz.ntmps47 Tryz.results47 rfl ⟨by simp,by simp⟩ au ?_
  simp only[toS,Qd,Qt,Qk,Ql,ay,Qg,QA,aC]
  repeat' first|apply jS|apply jO|apply jN|refine Q3 ?_|refine Q0 ?_|refine Qb ?_|refine QB fun _=>?_|apply jT
  refine Q5 trivial rfl rfl rfl (fun w _ _=>Qiw a.R a.C w) fun w v w' _ _ _ hv=>?_
  obtain⟨b',rfl,hb⟩:=hv
  cases b' with
  | true=>exact absurd (hb.1 rfl) hf
  | false =>
   repeat' first|apply jN|apply jT|refine Q1 ?_|refine Q0 ?_|refine QC (h:=?_)|refine QU (h:=?_)|apply jR
   exact Qn rfl (fun a w' st=>⟨st.kp,eX.f (fun h=>hf h.fits)⟩)

set_option linter.unusedSimpArgs false
set_option linter.unusedVariables false
set_option linter.unusedSectionVars false

section

abbrev Mi:=Nat→Nat→Int

def aN:Nat→(Nat→Int)→Int
 | 0,_=>0
 | n+1,f=>aN n f+f n

theorem Qq:∀ {n:Nat} {f g:Nat→Int},(∀ i,i<n→f i=g i)→aN n f=aN n g
 | 0,_,_,_=>rfl
 | n+1,f,g,h=>by rw[aN,aN,Qq (fun i hi=>h i oq),h n oq]
theorem Xv:∀ {n:Nat} {f:Nat→Int},(∀ i,i<n→f i=0)→aN n f=0
 | 0,_,_=>rfl
 | n+1,f,h=>by rw[aN,Xv (fun i hi=>h i oq),h n oq];grind
theorem ZB:∀ {n:Nat} {f g:Nat→Int},aN n (fun i=>f i+g i)=aN n f+aN n g
 | 0,_,_=>by simp only[aN];grind
 | n+1,f,g=>by simp only[aN];rw[ZB];grind
theorem QM:∀ {n:Nat} {f:Nat→Int} (x:Int),aN n (fun i=>x*f i)=x*aN n f
 | 0,_,x=>by simp only[aN];grind
 | n+1,f,x=>by simp only[aN];rw[QM];grind
theorem Wb:∀ {n:Nat} {f:Nat→Int} (x:Int),aN n (fun i=>f i*x)=aN n f*x
 | 0,_,x=>by simp only[aN];grind
 | n+1,f,x=>by simp only[aN];rw[Wb];grind
theorem Xw:∀ {n m:Nat} {f:Nat→Nat→Int},aN n (fun i=>aN m (fun j=>f i j))=aN m (fun j=>aN n (fun i=>f i j))
 | 0,m,f=>by simp only[aN];rw[Xv];intro i _;rfl
 | n+1,m,f=>by simp only[aN];rw[Xw,ZB]
theorem ZA:∀ {n k:Nat} {f:Nat→Int},k<n→(∀ i,i<n→i≠k→f i=0)→aN n f=f k
 | 0,k,_,h,_=>by omega
 | n+1,k,f,h,h'=>by
  rw[aN]
  by_cases hk:k=n
  ·subst hk;rw[Xv (fun i hi=>h' i oq oq)];grind
  ·rw[ZA (k:=k) oq (fun i hi hne=>h' i oq hne),h' n oq oq];grind
theorem Q76:∀ {n k:Nat} {f:Nat→Int},k≤n→(∀ i,k≤i→i<n→f i=0)→aN n f=aN k f
 | 0, k, f, h, _ => by obtain rfl : k = 0 := by omega
                       rfl
 | n+1,k,f,h,h'=>by
  by_cases hk:k=n+1
  ·subst hk;rfl
  ·rw[aN,Q76 (k:=k) oq (fun i a b=>h' i a oq),h' n oq oq];grind
def bM (n:Nat) (A B:Mi):Mi:=fun i j=>aN n fun k=>A i k*B k j
theorem YT {n m:Nat} {A B C:Mi} {i j:Nat}:bM n (bM m A B) C i j=bM m A (bM n B C) i j:=by
 unfold bM
 have h1:∀ k,aN m (fun t=>A i t*B t k)*C k j=aN m (fun t=>A i t*(B t k*C k j)):=fun k=>by
  rw[← Wb];exact Qq fun t _=>by grind
 have h2:∀ t,A i t*aN n (fun k=>B t k*C k j)=aN n (fun k=>A i t*(B t k*C k j)):=fun t=>by
  rw[← QM]
 rw[Qq (fun k _=>h1 k),Qq (fun t _=>h2 t),Xw]
theorem ZE {n:Nat} {A A' B B':Mi} {i j:Nat} (h:∀ k,k<n→A i k=A' i k) (h':∀ k,k<n→B k j=B' k j):bM n A B i j=bM n A' B' i j :=
 Qq fun k hk=>by rw[h k hk,h' k hk]

def dO:Mi:=fun i j=>if i=j then 1 else 0
theorem Q6b {r:Nat} {A:Mi} {i j:Nat} (hi:i<r):bM r dO A i j=A i j:=by
 unfold bM dO
 rw[ZA hi (fun k _ hk=>by rw[if_neg (fun e=>hk e.symm)];grind)]
 rw[if_pos rfl];grind
theorem Q2b {r:Nat} {A:Mi} {i j:Nat} (hj:j<r):bM r A dO i j=A i j:=by
 unfold bM dO
 rw[ZA hj (fun k _ hk=>by rw[if_neg hk];grind)]
 rw[if_pos rfl];grind
end


def sk (i a:Nat):Nat:=if a<i then a else a+1
def sg (i:Nat):Int:=if i % 2=0 then 1 else -1
def aZ:Nat→Mi→Int
 | 0,_=>1
 | n+1,A=>aN (n+1) fun i=>sg i*A i 0*aZ n (fun a b=>A (sk i a) (b+1))

theorem QS:∀ {n:Nat} {A B:Mi},(∀ i,i<n→∀ j,j<n→A i j=B i j)→aZ n A=aZ n B
 | 0,_,_,_=>rfl
 | n+1,A,B,h=>by
  rw[aZ,aZ]
  refine Qq fun i hi=>?_
  rw[h i hi 0 oq,QS (n:=n) (fun a ha b hb=>h (sk i a) (by unfold sk;split<;>omega) (b+1) oq)]

def QJ (A:Mi) (r:Nat) (f:Nat→Int):Mi:=fun i j=>if i=r then f j else A i j
theorem setRow_self (A:Mi) (r:Nat) (f:Nat→Int) (j:Nat):QJ A r f r j=f j:=if_pos rfl
theorem QH {A:Mi} {r i:Nat} (h:i≠r) (f:Nat→Int) (j:Nat):QJ A r f i j=A i j:=if_neg h

def unsk (i r:Nat):Nat:=if r<i then r else r-1
theorem Qnd {n i r:Nat} (hi:i<n+1) (hr:r<n+1) (h:r≠i):unsk i r<n:=by unfold unsk;split<;>omega
theorem Qqw {i r a:Nat} (h:r≠i):sk i a=r↔a=unsk i r:=by unfold sk unsk;split<;>split<;>omega

theorem Q4t {A:Mi} {r i:Nat} {f:Nat→Int} (h:r≠i):(fun a b=>QJ A r f (sk i a) (b+1))=QJ (fun a b=>A (sk i a) (b+1)) (unsk i r) (fun b=>f (b+1)):=by
 funext a b
 unfold QJ
 by_cases h1:sk i a=r
 ·rw[if_pos h1,if_pos ((Qqw h).1 h1)]
 ·rw[if_neg h1,if_neg (fun e=>h1 ((Qqw h).2 e))]
theorem XE {A:Mi} {i:Nat} {f:Nat→Int}:(fun a b=>QJ A i f (sk i a) (b+1))=fun a b=>A (sk i a) (b+1):=by
 funext a b
 exact QH (by unfold sk;split<;>omega) _ _

theorem YF:∀ {n:Nat} {A:Mi} {r:Nat} {f g:Nat→Int} (t:Int),r<n→aZ n (QJ A r fun j=>f j+t*g j)=aZ n (QJ A r f)+t*aZ n (QJ A r g)
 | 0,_,_,_,_,_,h=>absurd h (Nat.not_lt_zero _)
 | n + 1, A, r, f, g, t, h => by
  rw[aZ,aZ,aZ, ← QM, ← ZB]
  refine Qq fun i hi=>?_
  by_cases hir:r=i
  ·subst hir
   rw[XE,XE,XE,setRow_self,setRow_self,setRow_self]
   grind
  ·rw[Q4t hir,Q4t hir,Q4t hir,QH (Ne.symm hir),QH (Ne.symm hir),QH (Ne.symm hir),YF (f:=fun b=>f (b+1)) (g:=fun b=>g (b+1)) t (Qnd hi h hir)]
   grind

theorem Qbv:∀ {n r:Nat} {f:Nat→Int},r+1<n→(∀ i,i<n→i≠r→i≠r+1→f i=0)→f r+f (r+1)=0→aN n f=0
 | 0,_,_,h,_,_=>by omega
 | n + 1, r, f, h, h', h2 => by
  rw[aN]
  by_cases hk:r+1=n
  ·subst hk
   rw[ZA (k:=r) oq (fun i hi hne=>h' i oq hne oq)]
   exact h2
  ·rw[Qbv (r:=r) oq (fun i hi=>h' i oq) h2,h' n oq oq oq]
   rfl
theorem Qns (r:Nat):sg (r+1) = -sg r:=by
 unfold sg
 rcases Nat.mod_two_eq_zero_or_one r with h|h
 ·rw[if_neg oq,if_pos h]
 ·rw[if_pos oq,if_neg oq];rfl
theorem Q81:∀ {n:Nat} {A:Mi} {r:Nat},r+1<n→(∀ j,A r j=A (r+1) j)→aZ n A=0
 | 0,_,_,h,_=>by omega
 | n + 1, A, r, h, he => by
  rw[aZ]
  refine Qbv h (fun i hi h1 h2=>?_) ?_
  ·have:aZ n (fun a b=>A (sk i a) (b+1))=0:=by
    by_cases hir:i<r
    ·refine Q81 (r:=r-1) oq (fun j=>?_)
     show A (sk i (r-1)) (j+1)=A (sk i (r-1+1)) (j+1)
     rw[show sk i (r-1)=r by unfold sk;split<;>omega,show sk i (r-1+1)=r+1 by unfold sk;split<;>omega]
     exact he _
    ·refine Q81 (r:=r) oq (fun j=>?_)
     show A (sk i r) (j+1)=A (sk i (r+1)) (j+1)
     rw[show sk i r=r by unfold sk;split<;>omega,show sk i (r+1)=r+1 by unfold sk;split<;>omega]
     exact he _
   rw[this,Int.mul_zero]
  ·have:aZ n (fun a b=>A (sk (r+1) a) (b+1))=aZ n (fun a b=>A (sk r a) (b+1)):=QS fun a _ b _=>by
    by_cases har:a=r
    ·subst har
     rw[show sk (a+1) a=a by unfold sk;split<;>omega,show sk a a=a+1 by unfold sk;split<;>omega]
     exact he _
    ·rw[show sk (r+1) a=sk r a by unfold sk;split<;>split<;>omega]
   rw[this,Qns,he 0]
   grind

def swp (A:Mi) (r s:Nat):Mi:=fun i j=>if i=r then A s j else if i=s then A r j else A i j
theorem Zd {A:Mi} {r s:Nat} (h:r≠s) (f g:Nat→Int):QJ (QJ A r f) s g=QJ (QJ A s g) r f:=by
 funext i j
 unfold QJ
 by_cases h1:i=s
 ·subst h1;rw[if_pos rfl,if_neg (Ne.symm h),if_pos rfl]
 ·rw[if_neg h1]
  by_cases h2:i=r
  ·rw[if_pos h2,if_pos h2]
  ·rw[if_neg h2,if_neg h2,if_neg h1]
theorem ZC (A:Mi) (r:Nat):QJ A r (A r)=A:=by
 funext i j
 unfold QJ
 by_cases h:i=r
 ·rw[if_pos h,h]
 ·rw[if_neg h]
theorem Qfe {A:Mi} {r s:Nat} (h:r≠s):swp A r s=QJ (QJ A r (A s)) s (A r):=by
 funext i j
 unfold swp QJ
 by_cases h1:i=r
 ·subst h1;rw[if_pos rfl,if_neg h,if_pos rfl]
 ·rw[if_neg h1]
  by_cases h2:i=s
  ·rw[if_pos h2,if_pos h2]
  ·rw[if_neg h2,if_neg h2,if_neg h1]
theorem Qpa {n:Nat} {A:Mi} {r:Nat} (h:r+1<n) (u v:Nat→Int):aZ n (QJ (QJ A r v) (r+1) u) = -aZ n (QJ (QJ A r u) (r+1) v):=by
 have hz:∀ f,aZ n (QJ (QJ A r f) (r+1) f)=0:=fun f=>Q81 h fun j=>by
  rw[setRow_self,QH oq,setRow_self]
 have hne:r≠r+1:=by omega
 have h0:=hz (fun j=>u j+1*v j)
 rw[YF 1 h,Zd hne,Zd hne,YF 1 oq,YF 1 oq, ← Zd hne, ← Zd hne, ← Zd hne, ← Zd hne,hz u,hz v]at h0
 omega
theorem Qpb {n:Nat} {A:Mi} {r:Nat} (h:r+1<n):aZ n (swp A r (r+1)) = -aZ n A:=by
 rw[Qfe oq,Qpa h]
 have:QJ (QJ A r (A r)) (r+1) (A (r+1))=A:=by rw[ZC,ZC]
 rw[this]

theorem Qb2:∀ {d n:Nat} {A:Mi} {r s:Nat},s=r+1+d→s<n→(∀ j,A r j=A s j)→aZ n A=0
 | 0,n,A,r,s,h,hs,he=>by
  obtain rfl:s=r+1:=by omega
  exact Q81 hs he
 | d + 1, n, A, r, s, h, hs, he => by
  obtain⟨q,rfl⟩:∃ q,s=q+1:=⟨s-1,by omega⟩
  have h1:=Qpb (A:=A) (r:=q) hs
  have h2:aZ n (swp A q (q+1))=0:=Qb2 (d:=d) (r:=r) (s:=q) oq oq (fun j=>by
   unfold swp
   rw[if_neg oq,if_neg oq,if_pos rfl]
   exact he j)
  omega
theorem X6 {n:Nat} {A:Mi} {r s:Nat} (hr:r<n) (hs:s<n) (h:r≠s) (he:∀ j,A r j=A s j):aZ n A=0:=by
 rcases Nat.lt_or_gt_of_ne h with h1|h1
 ·exact Qb2 (d:=s-r-1) oq hs he
 ·exact Qb2 (d:=r-s-1) oq hr (fun j=>(he j).symm)
theorem WW {n:Nat} {A:Mi} {r s:Nat} (t:Int) (hr:r<n) (hs:s<n) (h:r≠s):aZ n (QJ A r fun j=>A r j+t*A s j)=aZ n A:=by
 rw[YF t hr,ZC,X6 (A:=QJ A r (A s)) hr hs h (fun j=>by rw[setRow_self,QH (Ne.symm h)]),Int.mul_zero,Int.add_zero]
theorem WS {n:Nat} {A:Mi} {r s:Nat} (hr:r<n) (hs:s<n) (h:r≠s):aZ n (swp A r s) = -aZ n A:=by
 have hz:∀ f,aZ n (QJ (QJ A r f) s f)=0:=fun f=>X6 hr hs h fun j=>by
  rw[setRow_self,QH h,setRow_self]
 have h0:=hz (fun j=>A r j+1*A s j)
 rw[YF 1 hs,Zd h,Zd h,YF 1 hr,YF 1 hr, ← Zd h, ← Zd h, ← Zd h, ← Zd h,hz (A r),hz (A s)]at h0
 have h1:QJ (QJ A r (A r)) s (A s)=A:=by rw[ZC,ZC]
 rw[h1, ← Qfe h]at h0
 omega
theorem Q2k:∀ {m n:Nat} {A:Mi} {r:Nat} {t:Nat→Int} {g:Nat→Nat→Int},r<n→aZ n (QJ A r fun j=>aN m fun k=>t k*g k j)=aN m fun k=>t k*aZ n (QJ A r (g k))
 | 0,n,A,r,t,g,h=>by
  have h1:=YF (A:=A) (f:=fun _=>0) (g:=fun _=>0) 1 h
  have h2:(fun j:Nat=>(0:Int)+1*0)=fun _=>0:=by funext j;rfl
  rw[h2]at h1
  show aZ n (QJ A r fun _=>0)=0
  omega
 | m+1,n,A,r,t,g,h=>by
  have h1:=YF (A:=A) (f:=fun j=>aN m fun k=>t k*g k j) (g:=g m) (t m) h
  rw[Q2k h]at h1
  exact h1
def prd:Nat→(Nat→Int)→Int
 | 0,_=>1
 | n+1,f=>f 0*prd n fun i=>f (i+1)
theorem Q7z:∀ {n:Nat} {A:Mi},(∀ i j,j<i→i<n→A i j=0)→aZ n A=prd n fun i=>A i i
 | 0,_,_=>rfl
 | n + 1, A, h => by
  rw[aZ,prd,ZA (k:=0) oq (fun i hi hne=>by rw[h i 0 oq hi];grind)]
  have e:(fun a b=>A (sk 0 a) (b+1))=fun a b=>A (a+1) (b+1):=by
   funext a b
   rw[show sk 0 a=a+1 by unfold sk;rfl]
  rw[e,Q7z (A:=fun a b=>A (a+1) (b+1)) (fun i j hij hi=>h (i+1) (j+1) oq oq)]
  show sg 0*_*_=_
  rw[show sg 0=1 from rfl,Int.one_mul]


inductive Red (n:Nat):Mi→Mi→Prop
 | refl (A):Red n A A
 | add {A B} (r s:Nat) (t:Int):r<n→s<n→r≠s→Red n (QJ A r fun j=>A r j+t*A s j) B→Red n A B
 | swap {A B} (r s:Nat):r<n→s<n→r≠s→Red n (swp A r s) B→Red n A B
theorem Red.trans {n:Nat} {A B C:Mi} (h:Red n A B) (h':Red n B C):Red n A C:=by
 induction h with
 | refl=>exact h'
 | add r s t hr hs hn _ ih=>exact .add r s t hr hs hn (ih h')
 | swap r s hr hs hn _ ih=>exact .swap r s hr hs hn (ih h')

theorem clear1 {n k i:Nat} (hk:k<n) (hi:i<n) (hki:k≠i):∀ (m:Nat) (A:Mi),(A i k).natAbs≤m →
  ∃ B,Red n A B∧B i k=0∧(∀ a,a≠k→a≠i→∀ j,B a j=A a j)∧(∀ j,A k j=0→A i j=0→B k j=0∧B i j=0)
 | 0,A,h=>⟨A,.refl A,by omega,fun _ _ _ _=>rfl,fun _ h1 h2=>⟨h1,h2⟩⟩
 | m + 1, A, h => by
  by_cases h0:A i k=0
  ·exact⟨A,.refl A,h0,fun _ _ _ _=>rfl,fun _ h1 h2=>⟨h1,h2⟩⟩
  ·let A1:=QJ A k fun j=>A k j+(-(A k k / A i k))*A i j
   let A2:=swp A1 k i
   have e1:∀ j,A1 k j=A k j+(-(A k k / A i k))*A i j:=fun j=>setRow_self _ _ _ _
   have e2:∀ a,a≠k→∀ j,A1 a j=A a j:=fun a ha j=>QH ha _ _
   have f1:∀ j,A2 i j=A1 k j:=fun j=>by
    show swp A1 k i i j=_
    unfold swp
    rw[if_neg (Ne.symm hki),if_pos rfl]
   have f2:∀ j,A2 k j=A i j:=fun j=>by
    show swp A1 k i k j=_
    unfold swp
    rw[if_pos rfl,e2 i (Ne.symm hki)]
   have f3:∀ a,a≠k→a≠i→∀ j,A2 a j=A a j:=fun a h1 h2 j=>by
    show swp A1 k i a j=_
    unfold swp
    rw[if_neg h1,if_neg h2,e2 a h1]
   have hm:A2 i k=A k k % A i k:=by
    rw[f1,e1]
    have:=Int.mul_ediv_add_emod (A k k) (A i k)
    have h3 : -(A k k / A i k)*A i k = -(A i k*(A k k / A i k)):=by rw[Int.neg_mul,Int.mul_comm]
    omega
   have hlt:(A2 i k).natAbs≤m:=by
    have h1:=Int.emod_nonneg (A k k) h0
    have h2:=Int.emod_lt (A k k) h0
    rw[hm]
    omega
   obtain⟨B,b1,b2,b3,b4⟩:=clear1 hk hi hki m A2 hlt
   refine⟨B,.add k i _ hk hi hki (.swap k i hk hi hki b1),b2,fun a h1 h2 j=>(b3 a h1 h2 j).trans (f3 a h1 h2 j),fun j h1 h2=>b4 j ?_ ?_⟩
   ·rw[f2,h2]
   ·rw[f1,e1,h1,h2];simp
theorem Qmm {n k:Nat} (hk:k<n):∀ (d:Nat) (A:Mi),k+1+d≤n→(∀ i j,j<k→k≤i→i<n→A i j=0) →
  ∃ B,Red n A B∧(∀ i,k<i→i<k+1+d→B i k=0)∧(∀ a,a<k→∀ j,B a j=A a j)∧(∀ i j,j<k→k≤i→i<n→B i j=0)
 | 0,A,_,h=>⟨A,.refl A,fun i h1 h2=>by omega,fun _ _ _=>rfl,h⟩
 | d + 1, A, hd, h => by
  obtain⟨B,b1,b2,b3,b4⟩:=Qmm hk d A oq h
  obtain⟨C,c1,c2,c3,c4⟩:=clear1 hk (show k+1+d<n by omega) (show k≠k+1+d by omega) _ B (V8 _)
  refine⟨C,b1.trans c1,fun i h1 h2=>?_,fun a ha j=>?_,fun i j hj hki hin=>?_⟩
  ·by_cases hi:i=k+1+d
   ·subst hi;exact c2
   ·rw[c3 i oq hi];exact b2 i h1 oq
  ·rw[c3 a oq oq,b3 a ha]
  ·have h5:=c4 j (b4 k j hj (V8 _) hk) (b4 (k+1+d) j hj oq oq)
   by_cases h6:i=k
   ·rw[h6];exact h5.1
   ·by_cases h7:i=k+1+d
    ·rw[h7];exact h5.2
    ·rw[c3 i h6 h7];exact b4 i j hj hki hin
theorem Q2h (n:Nat):∀ (k:Nat) (A:Mi),k≤n→∃ T,Red n A T∧∀ j,j<k→∀ i,j<i→i<n→T i j=0
 | 0,A,_=>⟨A,.refl A,fun j h=>absurd h (Nat.not_lt_zero _)⟩
 | k + 1, A, h => by
  obtain⟨T,t1,t2⟩:=Q2h n k A oq
  obtain⟨B,b1,b2,b3,b4⟩:=Qmm (show k<n by omega) (n-(k+1)) T oq (fun i j hj hki hin=>t2 j hj i oq hin)
  refine⟨B,t1.trans b1,fun j hj i hji hin=>?_⟩
  by_cases hjk:j=k
  ·subst hjk;exact b2 i hji oq
  ·by_cases hik:k≤i
   ·exact b4 i j oq hik hin
   ·rw[b3 i oq];exact t2 j oq i hji hin


theorem Q7i:∀ {n:Nat} {f:Nat→Int},prd (n+1) f=prd n f*f n
 | 0,f=>by show f 0*1=1*f 0;grind
 | n+1,f=>by
  rw[prd,Q7i (n:=n),prd]
  grind
theorem Qos {n:Nat} {A B:Mi} {r s:Nat} {t:Int}:bM n (QJ A r fun j=>A r j+t*A s j) B=QJ (bM n A B) r fun j=>bM n A B r j+t*bM n A B s j:=by
 funext i j
 by_cases h:i=r
 ·subst h
  rw[setRow_self]
  unfold bM
  rw[← QM, ← ZB]
  refine Qq fun k _=>?_
  rw[setRow_self]
  grind
 ·rw[QH h]
  unfold bM
  exact Qq fun k _=>by rw[QH h]
theorem Qrs {n:Nat} {A B:Mi} {r s:Nat}:bM n (swp A r s) B=swp (bM n A B) r s:=by
 funext i j
 unfold swp bM
 by_cases h1:i=r
 ·simp only[h1,if_true]
 ·by_cases h2:i=s
  ·subst h2
   simp only[if_neg h1,if_true]
  ·simp only[if_neg h1,if_neg h2]

theorem Qde {n:Nat} {T B:Mi} (hT:∀ i j,j<i→i<n→T i j=0):∀ m,m≤n→aZ n (fun i j=>if i<m then aN n (fun k=>T i k*B k j) else B i j)=prd m (fun i=>T i i)*aZ n B
 | 0,_=>by
  show aZ n _=1*_
  rw[Int.one_mul]
  exact QS fun i _ j _=>if_neg (Nat.not_lt_zero _)
 | m + 1, h => by
  have ih:=Qde (B:=B) hT m oq
  generalize hC:(fun i j=>if i<m then aN n (fun k=>T i k*B k j) else B i j:Mi)=C at ih
  have e:(fun i j=>if i<m+1 then aN n (fun k=>T i k*B k j) else B i j:Mi)=QJ C m fun j=>aN n fun k=>T m k*B k j:=by
   subst hC
   funext i j
   unfold QJ
   by_cases h1:i=m
   ·subst h1;rw[if_pos oq,if_pos rfl]
   ·rw[if_neg h1]
    by_cases h2:i<m
    ·show (if i<m+1 then _ else _)=if i<m then _ else _
     rw[if_pos oq,if_pos h2]
    ·show (if i<m+1 then _ else _)=if i<m then _ else _
     rw[if_neg oq,if_neg h2]
  have hrow:∀ k,m≤k→∀ j,C k j=B k j:=fun k hk j=>by subst hC;exact if_neg oq
  rw[e,Q2k oq,ZA (k:=m) oq (fun k hk hne=>?_)]
  ·have h2:QJ C m (B m)=C:=by
    have:C m=B m:=funext fun j=>hrow m (V8 _) j
    rw[← this,ZC]
   rw[h2,ih,Q7i]
   grind
  ·by_cases hkm:k<m
   ·rw[hT m k hkm oq,Int.zero_mul]
   ·rw[X6 (A:=QJ C m (B k)) (show m<n by omega) hk (Ne.symm hne) (fun j=>by rw[setRow_self,QH hne,hrow k oq]),Int.mul_zero]

theorem Q9m {n:Nat} {A B:Mi}:aZ n (bM n A B)=aZ n A*aZ n B:=by
 obtain⟨T,hR,hT⟩:=Q2h n n A (V8 _)
 have hT':∀ i j,j<i→i<n→T i j=0:=fun i j hji hi=>hT j oq i hji hi
 have hb:aZ n (bM n T B)=aZ n T*aZ n B:=by
  rw[Q7z hT', ← Qde hT' n (V8 _)]
  exact QS fun i hi j _=>by rw[if_pos hi];rfl
 clear hT hT'
 induction hR with
 | refl=>exact hb
 | add r s t hr hs hn _ ih =>
  have:=ih hb
  rw[Qos,WW t hr hs hn,WW t hr hs hn]at this
  exact this
 | swap r s hr hs hn _ ih =>
  have:=ih hb
  rw[Qrs,WS hr hs hn,WS hr hs hn,Int.neg_mul]at this
  omega


def tr (A:Mi):Mi:=fun i j=>A j i
theorem Qi2:∀ {n:Nat},aZ n dO=1:=by
 intro n
 rw[Q7z (fun i j h _=>by unfold dO;rw[if_neg oq])]
 have:∀ m,prd m (fun i=>dO i i)=1:=fun m=>by
  induction m with
  | zero=>rfl
  | succ m ih=>rw[Q7i,ih];show (1:Int)*(if m=m then 1 else 0)=1;rw[if_pos rfl];rfl
 exact this n
theorem Qi1 {n:Nat} {L:Mi} (hL:∀ i j,i<j→j<n→L i j=0):∀ d m,m+d=n→aZ n (fun i j=>if m≤i then L i j else dO i j)=prd d (fun i=>L (m+i) (m+i))
 | 0,m,h=>by
  rw[QS (B:=dO) (fun i hi j _=>if_neg oq),Qi2]
  rfl
 | d + 1, m, h => by
  have ih:=Qi1 hL d (m+1) oq
  generalize hC:(fun i j=>if m+1≤i then L i j else dO i j:Mi)=C at ih
  have hrow:∀ k,k<m+1→∀ j,C k j=dO k j:=fun k hk j=>by subst hC;exact if_neg oq
  have e:aZ n (fun i j=>if m≤i then L i j else dO i j:Mi)=aZ n (QJ C m fun j=>aN n fun k=>L m k*dO k j):=QS fun i hi j hj=>by
   subst hC
   unfold QJ
   by_cases h1:i=m
   ·subst h1
    rw[if_pos (V8 _),if_pos rfl]
    exact(Q2b (A:=L) (r:=n) hj).symm
   ·rw[if_neg h1]
    by_cases h2:m≤i
    ·show _=if m+1≤i then _ else _
     rw[if_pos h2,if_pos oq]
    ·show _=if m+1≤i then _ else _
     rw[if_neg h2,if_neg oq]
  rw[e,Q2k oq,ZA (k:=m) oq (fun k hk hne=>?_)]
  ·have h2:QJ C m (dO m)=C:=by
    have:C m=dO m:=funext fun j=>hrow m oq j
    rw[← this,ZC]
   rw[h2,ih,prd]
   show L m m*_=L m m*_
   congr 2
   funext i
   rw[show m+1+i=m+(i+1) by omega]
  ·by_cases hkm:m<k
   ·rw[hL m k hkm hk,Int.zero_mul]
   ·rw[X6 (A:=QJ C m (dO k)) (show m<n by omega) hk (Ne.symm hne) (fun j=>by rw[setRow_self,QH hne,hrow k oq]),Int.mul_zero]

theorem Q31 {n:Nat} {A:Mi}:aZ n (tr A)=aZ n A:=by
 obtain⟨T,hR,hT⟩:=Q2h n n A (V8 _)
 have hT':∀ i j,j<i→i<n→T i j=0:=fun i j hji hi=>hT j oq i hji hi
 have hb:aZ n (tr T)=aZ n T:=by
  have h1:=Qi1 (L:=tr T) (n:=n) (fun i j hij hj=>hT' j i hij hj) n 0 oq
  rw[Q7z hT']
  have e:(fun i j=>if 0≤i then tr T i j else dO i j:Mi)=tr T:=by
   funext i j
   exact if_pos (V9 _)
  rw[e]at h1
  rw[h1]
  have:∀ i,tr T (0+i) (0+i)=T i i:=fun i=>by rw[Vu];rfl
  simp only[this]
 clear hT hT'
 induction hR with
 | refl=>exact hb
 | @add A B r s t hr hs hn _ ih =>
  have h0:=ih hb
  rw[WW t hr hs hn]at h0
  rw[← h0]
  have e1:aZ n (tr (QJ A r fun j=>A r j+t*A s j))=aZ n (bM n (tr A) (QJ dO s fun j=>dO s j+t*dO r j)):=QS fun i hi j hj=>by
   show QJ A r _ j i=_
   have h2:bM n (tr A) (QJ dO s fun j=>dO s j+t*dO r j) i j=bM n (tr A) dO i j+t*(tr A i s*dO r j):=by
    unfold bM
    have h3:∀ k,k<n→tr A i k*QJ dO s (fun j=>dO s j+t*dO r j) k j=tr A i k*dO k j+(if k=s then t*(tr A i s*dO r j) else 0):=fun k _=>by
     by_cases hk:k=s
     ·subst hk;rw[setRow_self,if_pos rfl];grind
     ·rw[QH hk,if_neg hk,Int.add_zero]
    rw[Qq h3,ZB,ZA (f:=fun k=>if k=s then t*(tr A i s*dO r j) else 0) hs (fun k _ hk=>if_neg hk),if_pos rfl]
   rw[h2,Q2b hj]
   by_cases hj2:j=r
   ·subst hj2
    rw[setRow_self]
    unfold tr dO
    rw[if_pos rfl];grind
   ·rw[QH hj2]
    unfold tr dO
    rw[if_neg (Ne.symm hj2)];grind
  rw[e1,Q9m,WW t hs hr (Ne.symm hn),Qi2,Int.mul_one]
 | @swap A B r s hr hs hn _ ih =>
  have h0:=ih hb
  rw[WS hr hs hn]at h0
  have e1:aZ n (tr (swp A r s))=aZ n (bM n (tr A) (swp dO r s)):=QS fun i hi j hj=>by
   show swp A r s j i=_
   have h2:bM n (tr A) (swp dO r s) i j=bM n (tr A) dO i (if j=r then s else if j=s then r else j):=by
    unfold bM
    refine Qq fun k _=>?_
    congr 1
    unfold swp dO
    by_cases hj1:j=r<;>by_cases hj2:j=s<;>by_cases hk1:k=r<;>by_cases hk2:k=s<;>grind
   rw[h2,Q2b (by split<;>(try split)<;>omega)]
   unfold swp tr
   by_cases hj1:j=r
   ·rw[if_pos hj1,if_pos hj1]
   ·rw[if_neg hj1,if_neg hj1]
    by_cases hj2:j=s
    ·rw[if_pos hj2,if_pos hj2]
    ·rw[if_neg hj2,if_neg hj2]
  rw[e1,Q9m,WS hr hs hn,Qi2]at h0
  omega


theorem Q1r {n r:Nat} {A:Mi} {f:Nat→Int} (hr:r<n) (hf:∀ j,j<n→f j=0):aZ n (QJ A r f)=0:=by
 have h:=Q2k (m:=0) (A:=A) (t:=fun _=>0) (g:=fun _ _=>0) hr
 rw[QS (B:=QJ A r fun j=>aN 0 fun k=>(fun _=>(0:Int)) k*(fun _ _=>(0:Int)) k j) ?_,h]
 ·rfl
 ·intro i hi j hj
  unfold QJ
  split
  ·rw[hf j hj];rfl
  ·rfl

theorem cramer {n:Nat} {A:Mi} {g:Nat→Int} (hd:aZ n A≠0) (h:∀ j,j<n→aN n (fun t=>g t*A t j)=0):∀ r,r<n→g r=0:=fun r hr=>by
 have h1:=Q1r (A:=A) (f:=fun j=>aN n fun t=>g t*A t j) hr h
 rw[Q2k hr,ZA hr (fun t ht hne=>?_),ZC]at h1
 ·rcases Int.mul_eq_zero.1 h1 with h2|h2
  ·exact h2
  ·exact absurd h2 hd
 ·rw[X6 hr ht (Ne.symm hne) (fun j=>by rw[setRow_self,QH hne]),Int.mul_zero]

def unit (t:Nat):Nat→Int:=fun b=>if t=b then 1 else 0

theorem Qjs {n b:Nat} {f:Nat→Int} (hb:b<n):aN n (fun t=>f t*unit t b)=f b:=by
 rw[ZA hb (fun i _ hne=>by unfold unit;rw[if_neg hne,Int.mul_zero])]
 unfold unit
 rw[if_pos rfl,Int.mul_one]

theorem Q1s {n r:Nat} {A:Mi} {f:Nat→Int} (hr:r<n):aZ n (QJ A r f)=aN n fun t=>f t*aZ n (QJ A r (unit t)):=by
 rw[← Q2k hr]
 refine QS fun i _ j hj=>?_
 unfold QJ
 split
 ·exact(Qjs hj).symm
 ·rfl

theorem Q80:∀ {n:Nat} {M:Mi},(∀ j,j<n+1→M n j=unit n j)→aZ (n+1) M=aZ n M
 | 0,M,h=>by
  rw[aZ]
  show aN 0 _+sg 0*M 0 0*1=1
  rw[h 0 oq]
  rfl
 | n+1,M,h=>by
  rw[aZ,aZ,aN,h 0 oq]
  have e:unit (n+1) 0=0:=if_neg oq
  rw[e,Int.mul_zero,Int.zero_mul,Int.add_zero]
  refine Qq fun i hi=>?_
  rw[Q80 (n:=n) (fun j hj=>?_)]
  have:sk i n=n+1:=by unfold sk;rw[if_neg oq]
  rw[this,h (j+1) oq]
  unfold unit
  by_cases hj:n=j
  ·rw[if_pos hj,if_pos oq]
  ·rw[if_neg hj,if_neg oq]

def bd (k:Nat) (A:Mi) (i j:Nat):Mi:=fun a b=>A (if a<k then a else i) (if b<k then b else j)
def bm (k:Nat) (A:Mi) (i j:Nat):Int:=aZ (k+1) (bd k A i j)

theorem Qbe (k:Nat) (A:Mi):bm k A k k=aZ (k+1) A:=by
 refine QS fun i hi j hj=>?_
 unfold bd
 congr 1
 ·by_cases h:i<k
  ·rw[if_pos h]
  ·rw[if_neg h];omega
 ·by_cases h:j<k
  ·rw[if_pos h]
  ·rw[if_neg h];omega

theorem Qj9 {k i j:Nat} {A:Mi} (hj:j<k):bm k A i j=0:=by
 unfold bm
 rw[← Q31]
 refine X6 (r:=j) (s:=k) oq oq oq (fun b=>?_)
 unfold tr bd
 rw[if_pos hj,if_neg (Nat.lt_irrefl k)]
theorem Qsq {k i j:Nat} {A:Mi} (hi:i<k):bm k A i j=0:=by
 unfold bm
 refine X6 (r:=i) (s:=k) oq oq oq (fun b=>?_)
 unfold bd
 rw[if_pos hi,if_neg (Nat.lt_irrefl k)]

def cf (k:Nat) (A:Mi) (i t:Nat):Int:=aZ (k+1) (QJ (tr (bd k A i 0)) k (unit t))
theorem Q1w (k:Nat) (A:Mi) (i j:Nat):bm k A i j=aN k (fun t=>A t j*cf k A i t)+A i j*aZ k A:=by
 unfold bm
 rw[← Q31,QS (B:=QJ (tr (bd k A i 0)) k (fun b=>A (if b<k then b else i) j)) ?_,Q1s oq,aN]
 ·congr 1
  ·refine Qq fun t ht=>?_
   rw[if_pos ht]
   rfl
  ·rw[if_neg (Nat.lt_irrefl k),Q80 (fun j _=>setRow_self _ _ _ _), ← Q31 (A:=A)]
   congr 1
   refine QS fun a ha b hb=>?_
   rw[QH oq]
   unfold tr bd
   rw[if_pos ha,if_pos hb]
 ·intro a ha b hb
  by_cases h:a=k
  ·subst h
   rw[setRow_self]
   unfold tr bd
   rw[if_neg (Nat.lt_irrefl a)]
  ·rw[QH h]
   have:a<k:=by omega
   unfold tr bd
   rw[if_pos this,if_pos this]

theorem Qq6 {k:Nat} {A:Mi} (hp:aZ (k+1) A≠0) (i j:Nat):bm k A k k*bm k A i j-bm k A i k*bm k A k j=aZ k A*bm (k+1) A i j:=by
 have key:∀ j,bm k A k k*bm k A i j-bm k A i k*bm k A k j-aZ k A*bm (k+1) A i j=aN (k+1) (fun t=>((if t<k then bm k A k k*cf k A i t-bm k A i k*cf k A k t else -(bm k A i k*aZ k A))-aZ k A*cf (k+1) A i t)*A t j):=fun j=>by
  rw[Q1w k A i j,Q1w k A k j,Q1w (k+1) A i j,Qbe,aN,aN,if_neg (Nat.lt_irrefl k)]
  have e:aN k (fun t=>((if t<k then aZ (k+1) A*cf k A i t-bm k A i k*cf k A k t else -(bm k A i k*aZ k A))-aZ k A*cf (k+1) A i t)*A t j)=aZ (k+1) A*aN k (fun t=>A t j*cf k A i t)+(-(bm k A i k))*aN k (fun t=>A t j*cf k A k t)+(-(aZ k A))*aN k (fun t=>A t j*cf (k+1) A i t):=by
   rw[← QM, ← QM, ← QM, ← ZB, ← ZB]
   refine Qq fun t ht=>?_
   rw[if_pos ht]
   grind
  rw[e]
  grind
 have hz:∀ j,j<k+1→aN (k+1) (fun t=>((if t<k then bm k A k k*cf k A i t-bm k A i k*cf k A k t else -(bm k A i k*aZ k A))-aZ k A*cf (k+1) A i t)*A t j)=0:=fun j hj=>by
  rw[← key j,Qj9 (k:=k+1) hj]
  by_cases h:j<k
  ·rw[Qj9 h,Qj9 h];grind
  ·obtain rfl:j=k:=by omega
   grind
 have hg:=cramer hp hz
 have h2:=key j
 rw[Xv (fun t ht=>by rw[hg t ht,Int.zero_mul])]at h2
 omega

theorem Qq7 {n k:Nat} {A:Mi} (hk:k<n) (hd:aZ k A≠0) (h:∀ i,k≤i→i<n→bm k A i k=0):aZ n A=0:=by
 refine Vg fun hn=>?_
 have hn':aZ n (tr A)≠0:=by rw[Q31];exact hn
 have hrow:∀ i,bm k A i k=aN (k+1) (fun t=>A i t*aZ (k+1) (QJ (bd k A 0 k) k (unit t))):=fun i=>by
  unfold bm
  rw[← Q1s (f:=fun t=>A i t) oq]
  refine QS fun a ha b hb=>?_
  have hbk:(if b<k then b else k)=b:=by split<;>omega
  by_cases hak:a=k
  ·subst hak
   rw[setRow_self]
   unfold bd
   rw[if_neg (Nat.lt_irrefl a),hbk]
  ·rw[QH hak]
   have hak':a<k:=by omega
   unfold bd
   rw[if_pos hak',if_pos hak']
 have hz:=cramer (g:=fun t=>if t<k+1 then aZ (k+1) (QJ (bd k A 0 k) k (unit t)) else 0) hn' (fun i hi=>by
  rw[Q76 (k:=k+1) oq (fun t ht _=>by rw[if_neg oq,Int.zero_mul])]
  have h1:bm k A i k=0:=by
   by_cases hik:i<k
   ·exact Qsq hik
   ·exact h i oq hi
  rw[hrow]at h1
  rw[← h1]
  refine Qq fun t ht=>?_
  rw[if_pos ht]
  unfold tr
  exact Int.mul_comm _ _) k hk
 rw[if_pos oq,Q80 (fun j _=>setRow_self _ _ _ _)]at hz
 refine hd ?_
 rw[← hz]
 refine QS fun a ha b hb=>?_
 rw[QH oq]
 unfold bd
 rw[if_pos ha,if_pos hb]

structure Bar (n:Nat) (A:Mi) (k:Nat) (M:Mi) (last:Int):Prop where
 eqd:last=aZ k A
 ne:last≠0
 eq:∀ i j,k≤i→i<n→k≤j→j<n→M i j=bm k A i j

theorem Bar.step {n k:Nat} {A M M':Mi} {last:Int} (h:Bar n A k M last) (hk:k<n) (hp:M k k≠0) (hM:∀ i j,k<i→i<n→k<j→j<n→M' i j=(M k k*M i j-M i k*M k j) / last):Bar n A (k+1) M' (M k k):=by
 have hkk:=h.eq k k (V8 _) hk (V8 _) hk
 have hd:aZ (k+1) A≠0:=by rw[← Qbe, ← hkk];exact hp
 refine⟨by rw[hkk,Qbe],hp,fun i j hi hin hj hjn=>?_⟩
 rw[hM i j hi hin hj hjn,hkk,h.eq i j oq hin oq hjn,h.eq i k oq hin (V8 _) hk,h.eq k j (V8 _) hk oq hjn,Qq6 hd, ← h.eqd]
 exact Int.mul_ediv_cancel_left _ h.ne

theorem Qt3 {n k:Nat} {A M:Mi} {last:Int} (h:Bar n A k M last) (hk:k<n) (hz:∀ i,k≤i→i<n→M i k=0):aZ n A=0 :=
 Qq7 hk (by rw[← h.eqd];exact h.ne) fun i hi hin=>by rw[← h.eq i k hi hin (V8 _) hk];exact hz i hi hin

theorem Qt4 {n:Nat} {A M:Mi} {last:Int} (h:Bar n A n M last):last=aZ n A:=h.eqd

theorem Q8g {k i i' j:Nat} {A A':Mi} (s:Int) (h1:∀ a,a<k→∀ b,A' a b=A a b) (h2:∀ b,A' i b=s*A i' b):bm k A' i j=s*bm k A i' j:=by
 unfold bm
 have h:=YF (A:=bd k A i' j) (r:=k) (f:=fun _=>0) (g:=bd k A i' j k) s (Nat.lt_succ_self k)
 rw[ZC,Q1r (Nat.lt_succ_self k) (fun _ _=>rfl),Int.zero_add]at h
 rw[← h]
 refine QS fun a ha b hb=>?_
 by_cases hak:a=k
 ·subst hak
  rw[setRow_self,Int.zero_add]
  unfold bd
  rw[if_neg (Nat.lt_irrefl a),if_neg (Nat.lt_irrefl a),h2]
 ·rw[QH hak]
  have hak':a<k:=by omega
  unfold bd
  rw[if_pos hak',if_pos hak']
  exact h1 a hak' _

theorem Bar.swap {n k q:Nat} {A M M':Mi} {last:Int} (s:Int) (h:Bar n A k M last) (hk:k<q) (hq:q<n) (h1:∀ j,j<n→M' k j=s*M q j) (h2:∀ j,j<n→M' q j=M k j) (h3:∀ i j,i<n→j<n→i≠k→i≠q→M' i j=M i j) :
  Bar n (QJ (swp A k q) k (fun j=>s*A q j)) k M' last∧aZ n (QJ (swp A k q) k (fun j=>s*A q j)) = -(s*aZ n A):=by
 have hA:∀ a,a<k→∀ b,QJ (swp A k q) k (fun j=>s*A q j) a b=A a b:=fun a ha b=>by
  rw[QH oq]
  unfold swp
  rw[if_neg oq,if_neg oq]
 refine⟨⟨?_,h.ne,fun i j hi hin hj hjn=>?_⟩,?_⟩
 ·rw[h.eqd]
  exact QS fun a ha b _=>(hA a ha b).symm
 ·by_cases hik:i=k
  ·subst hik
   rw[h1 j hjn,h.eq q j oq hq hj hjn,Q8g (i':=q) s hA (fun b=>setRow_self _ _ _ _)]
  ·by_cases hiq:i=q
   ·subst hiq
    rw[h2 j hjn,h.eq k j (V8 _) oq hj hjn,Q8g (i':=k) 1 hA (fun b=>by
     rw[QH hik];unfold swp;rw[if_neg hik,if_pos rfl,Int.one_mul]),Int.one_mul]
   ·rw[h3 i j hin hjn hik hiq,h.eq i j hi hin hj hjn,Q8g (i':=i) 1 hA (fun b=>by
     rw[QH hik];unfold swp;rw[if_neg hik,if_neg hiq,Int.one_mul]),Int.one_mul]
 ·have h4:=YF (n:=n) (A:=swp A k q) (r:=k) (f:=fun _=>0) (g:=swp A k q k) s oq
  rw[ZC,Q1r oq (fun _ _=>rfl),Int.zero_add,WS oq hq oq]at h4
  rw[← Int.mul_neg, ← h4]
  refine QS fun a ha b hb=>?_
  by_cases hak:a=k
  ·subst hak
   rw[setRow_self,setRow_self,Int.zero_add]
   unfold swp
   rw[if_pos rfl]
  ·rw[QH hak,QH hak]

set_option linter.unusedSimpArgs false
set_option linter.unusedVariables false
set_option linter.unusedSectionVars false

theorem Q0z {r c i j:Nat} (hi:i<r) (hj:j<c):i*c+j<r*c:=by
 have h:(i+1)*c≤r*c:=V1 c hi
 rw[Vo,Nat.one_mul]at h;omega
theorem Qly {c i j:Nat} (hj:j<c):(i*c+j) / c=i:=by
 rw[Vc,Nat.mul_add_div oq,Nat.div_eq_of_lt hj,Vt]
theorem Qlx {c i j:Nat} (hj:j<c):(i*c+j) % c=j:=by
 rw[Vc,Nat.mul_add_mod,Nat.mod_eq_of_lt hj]
theorem Q3c {r c k:Nat} (h:k<r*c):k / c<r∧k % c<c∧k=(k / c)*c+k % c:=by
 have hc:0<c:=by
  rcases Nat.eq_zero_or_pos c with h0|h0
  ·subst h0;omega
  ·exact h0
 refine⟨(Nat.div_lt_iff_lt_mul hc).2 h,Nat.mod_lt _ hc,?_⟩
 rw[Vc,Nat.div_add_mod]
theorem Q3u {r c i:Nat} (hi:i<r):(i+1)*c≤r*c:=V1 c oq

def enz (c:Nat) (xs:List Int) (i j:Nat):Int:=xs.getD (i*c+j) 0
def ZM.at (m:ZM):Mi:=fun i j=>enz m.c m.e i j
def gu (r c:Nat) (g:Mi):List Int:=tab (r*c) fun k=>g (k / c) (k % c)
theorem Q41 (r c:Nat) (g:Mi):(gu r c g).length=r*c:=by simp[gu,tab]
theorem Q2j {r c i j:Nat} {g:Mi} (hi:i<r) (hj:j<c):enz c (gu r c g) i j=g i j:=by
 unfold enz gu
 rw[Zq (Q0z hi hj),Qly hj,Qlx hj]
theorem Qfc {r c i j:Nat} {g:Mi} (hi:i<r) (hj:j<c):(gu r c g).getD (i*c+j) 0=g i j:=Q2j hi hj
theorem Z3 {r c:Nat} {g g':Mi} (h:∀ i j,i<r→j<c→g i j=g' i j):gu r c g=gu r c g':=Y0 fun k hk=>by
 obtain⟨h1,h2,_⟩:=Q3c hk
 exact h _ _ h1 h2
theorem Q71 {r c i j:Nat} {x:Int} {g:Mi} (hj:j<c):(gu r c g).set (i*c+j) x=gu r c (fun a b=>if a=i∧b=j then x else g a b):=by
 unfold gu
 rw[Qac]
 refine Y0 fun k hk=>?_
 obtain⟨h1,h2,h3⟩:=Q3c hk
 by_cases h:k=i*c+j
 ·have:k / c=i∧k % c=j:=by subst h;exact⟨Qly hj,Qlx hj⟩
  rw[if_pos h]
  exact(if_pos this).symm
 ·rw[if_neg h]
  refine(if_neg ?_).symm
  rintro⟨e1,e2⟩
  rw[e1,e2]at h3
  exact h h3
theorem Qfb {r c:Nat} {xs:List Int} (hl:xs.length=r*c):gu r c (enz c xs)=xs:=by
 unfold gu
 rw[Y0 (g':=fun i=>xs.getD i 0)]
 ·exact Qlz hl
 ·intro k hk
  obtain⟨_,_,h3⟩:=Q3c hk
  unfold enz
  rw[← h3]
theorem Qqf {r c:Nat} {xs ys:List Int} (hx:xs.length=r*c) (hy:ys.length=r*c) (h:∀ i j,i<r→j<c→enz c xs i j=enz c ys i j):xs=ys:=by
 rw[← Qfb hx, ← Qfb hy]
 exact Z3 h
theorem Q70 (r c:Nat):gu r c (fun _ _=>0)=tab (r*c) fun _=>0:=rfl

def zof (r c:Nat) (g:Mi):ZM:=⟨r,c,gu r c g⟩
theorem Xg {r c:Nat} {g:Mi} (hr:r≤200) (hc:c≤200):cO (zof r c g):=⟨hr,hc,Q41 r c g⟩
theorem Qet {r c i j:Nat} {g:Mi} (hi:i<r) (hj:j<c):(zof r c g).at i j=g i j:=Q2j hi hj
theorem Qqe {m:ZM} (h:cO m):zof m.r m.c m.at=m:=by
 unfold zof ZM.at
 rw[Qfb h.len]
theorem Qg9 {c i j:Nat} {xs:List Int} (hj:j<c):((xs.drop (i*c)).take c).getD j 0=enz c xs i j:=by
 unfold enz
 simp only[List.getD,List.getElem?_take_of_lt hj,List.getElem?_drop]

def cZ (K:Nat) (m:ZM):Prop:=∀ i,(m.e.getD i 0).natAbs<256 ^ K
theorem cZ.mono {K K':Nat} {m:ZM} (h:cZ K m) (hk:K≤K'):cZ K' m:=fun i=>V7 (h i) (V4 dq hk)
theorem cZ.at {K:Nat} {m:ZM} (h:cZ K m) (i j:Nat):(m.at i j).natAbs<256 ^ K:=h _
theorem cZ.of {K r c:Nat} {g:Mi} (h:∀ i j,i<r→j<c→(g i j).natAbs<256 ^ K):cZ K (zof r c g):=fun k=>by
 rcases Nat.lt_or_ge k (r*c)with hk|hk
 ·obtain⟨h1,h2,h3⟩:=Q3c hk
  show ((gu r c g).getD k 0).natAbs<_
  rw[h3,Qfc h1 h2]
  exact h _ _ h1 h2
 ·show ((gu r c g).getD k 0).natAbs<_
  simp only[List.getD,List.getElem?_eq_none (show (gu r c g).length≤k by rw[Q41];exact hk),Option.getD_none]
  exact Nat.pow_pos dq
theorem bG (K:Nat):0<256 ^ K:=Nat.pow_pos dq

def addZ (m n:ZM):ZM:=zof m.r m.c fun i j=>m.at i j+n.at i j
def subZ (m n:ZM):ZM:=zof m.r m.c fun i j=>m.at i j-n.at i j
def jH (m n:ZM):ZM:=zof m.r n.c (bM m.c m.at n.at)
def trZ (m:ZM):ZM:=zof m.c m.r (tr m.at)
def Qax (m n:ZM):ZM:=zof m.r (m.c+n.c) fun i j=>if j<m.c then m.at i j else n.at i (j-m.c)
def XS (m:ZM) (i j r c:Nat):ZM:=zof r c fun a b=>m.at (i+a) (j+b)
def gy (n:Nat):ZM:=zof n n dO
def Qt5 (r c:Nat):ZM:=zof r c fun _ _=>0

theorem Qft {B:Nat}:∀ {n:Nat} {f:Nat→Int},(∀ i,i<n→(f i).natAbs≤B)→(aN n f).natAbs≤n*B
 | 0,f,_=>by simp[aN]
 | n+1,f,h=>by
  rw[aN]
  have h1:=Qft (n:=n) (f:=f) (fun i hi=>h i oq)
  have h2:=h n oq
  have h3:=Int.natAbs_add_le (aN n f) (f n)
  rw[Vo,Nat.one_mul]
  omega
theorem X2 {x y:Int} {K L:Nat} (hx:x.natAbs<256 ^ K) (hy:y.natAbs<256 ^ L):(x*y).natAbs<256 ^ (K+L):=by
 rw[Vq,Nat.pow_add]
 exact Nat.mul_lt_mul'' hx hy
theorem Qss {x y:Int} {K:Nat} (hx:x.natAbs<256 ^ K) (hy:y.natAbs<256 ^ K):(x+y).natAbs<256 ^ (K+1):=by
 have h:=Int.natAbs_add_le x y
 rw[Va];omega
theorem Qqr {x y:Int} {K:Nat} (hx:x.natAbs<256 ^ K) (hy:y.natAbs<256 ^ K):(x-y).natAbs<256 ^ (K+1):=by
 rw[Va];omega
theorem Y6 {x:Int} {K L:Nat} (h:x.natAbs<256 ^ K) (hk:K≤L):x.natAbs<256 ^ L:=V7 h (V4 dq hk)
theorem cZ.add {K:Nat} {m n:ZM} (h:cZ K m) (h':cZ K n):cZ (K+1) (addZ m n):=cZ.of fun i j _ _=>Qss (h.at i j) (h'.at i j)
theorem cZ.sub {K:Nat} {m n:ZM} (h:cZ K m) (h':cZ K n):cZ (K+1) (subZ m n):=cZ.of fun i j _ _=>Qqr (h.at i j) (h'.at i j)
theorem cZ.tr {K:Nat} {m:ZM} (h:cZ K m):cZ K (trZ m):=cZ.of fun i j _ _=>h.at j i
theorem cZ.part {K:Nat} {m:ZM} (h:cZ K m) (i j r c:Nat):cZ K (XS m i j r c):=cZ.of fun a b _ _=>h.at _ _
theorem cZ.zero (r c:Nat):cZ 0 (Qt5 r c):=cZ.of fun i j _ _=>by decide


def bez:Nat→Int→Int→Int × Int
 | 0,a,_=>(a.sign,0)
 | n+1,a,b=>if b=0 then (a.sign,0) else ((bez n b (a % b)).2,(bez n b (a % b)).1-a / b*(bez n b (a % b)).2)
theorem Qn4:∀ (n:Nat) (a b:Int),b.natAbs≤n→(bez n a b).1*a+(bez n a b).2*b=Int.gcd a b
 | 0,a,b,h=>by
  have hb:b=0:=by omega
  subst hb
  show a.sign*a+0*0=_
  rw[Int.sign_mul_self]
  simp[Int.gcd]
 | n + 1, a, b, h => by
  rw[bez]
  split
  ·rename_i hb
   subst hb
   show a.sign*a+0*0=_
   rw[Int.sign_mul_self]
   simp[Int.gcd]
  ·rename_i hb
   have h1:=Int.emod_nonneg a hb
   have h2:=Int.emod_lt a hb
   have ih:=Qn4 n b (a % b) oq
   rw[Q1m]at ih
   rw[← ih]
   have h3:=Int.emod_def a b
   generalize (bez n b (a % b)).1=p at *
   generalize (bez n b (a % b)).2=q at *
   rw[h3]
   dsimp only
   generalize a / b=k
   rw[Int.sub_mul,Int.mul_sub,Int.mul_assoc k q b,Int.mul_comm q b, ← Int.mul_assoc k b q,Int.mul_comm k b,Int.mul_comm q (b*k)]
   omega

def dB (a b:Int):Int × Int × Int :=
 if b=0 then ((a.natAbs:Int),a.sign,0)
 else ((Int.gcd a b:Int),(bez b.natAbs a b).1 % (b / (Int.gcd a b:Int)),((Int.gcd a b:Int)-(bez b.natAbs a b).1 % (b / (Int.gcd a b:Int))*a) / b)
theorem Q50 (a b:Int):GcdP a b (dB a b).1 (dB a b).2.1 (dB a b).2.2:=by
 unfold dB
 split
 ·rename_i h;subst h;exact Q2x a
 ·rename_i h;exact Qhm rfl h (Qn4 _ a b (V8 _))

def gE (g:List (List Int)) (i j:Nat):Int:=(g.getD i []).getD j 0
structure Rec (r c:Nat) (g:List (List Int)):Prop where
 len:g.length=r
 row:∀ x∈g,x.length=c
theorem Rec.at {r c i:Nat} {g:List (List Int)} (h:Rec r c g) (hi:i<r):(g.getD i []).length=c:=h.row _ (YA (by have:=h.len;omega))
theorem Q9e {xs ys:List Int} (hl:xs.length=ys.length) (h:∀ j,j<xs.length→xs.getD j 0=ys.getD j 0):xs=ys:=by
 refine List.ext_getElem hl fun j h1 h2=>?_
 have:=h j h1
 simpa [List.getD,List.getElem?_eq_getElem h1,List.getElem?_eq_getElem h2] using this
theorem Rec.ext {r c:Nat} {g g':List (List Int)} (h:Rec r c g) (h':Rec r c g') (e:∀ i j,i<r→j<c→gE g i j=gE g' i j):g=g':=by
 refine List.ext_getElem (by rw[h.len,h'.len]) fun i h1 h2=>?_
 have hi:i<r:=by have:=h.len;omega
 have e1:g.getD i []=g[i]:=by rw[List.getD,List.getElem?_eq_getElem h1];rfl
 have e2:g'.getD i []=g'[i]:=by rw[List.getD,List.getElem?_eq_getElem h2];rfl
 have l1:=h.at hi
 have l2:=h'.at hi
 rw[← e1, ← e2]
 refine Q9e oq fun j hj=>e i j hi oq

structure Tn where
 a:Int
 b:Int
 c:Int
 d:Int
 deriving DecidableEq
def Tn.back (t:Tn):Tn:=⟨t.d,-t.b,-t.c,t.a⟩
def Tn.flip (t:Tn):Tn:=⟨t.d,-t.c,-t.b,t.a⟩
def Tn.p (t:Tn) (x y:Int):Int:=t.a*x+t.b*y
def Tn.q (t:Tn) (x y:Int):Int:=t.c*x+t.d*y

def XJ (i k:Nat) (t:Tn) (g:List (List Int)):List (List Int):=(g.set i (List.zipWith t.p (g.getD i []) (g.getD k []))).set k (List.zipWith t.q (g.getD i []) (g.getD k []))
def Xq (i k:Nat) (t:Tn) (g:List (List Int)):List (List Int):=g.map fun r=>(r.set i (t.p (r.getD i 0) (r.getD k 0))).set k (t.q (r.getD i 0) (r.getD k 0))

theorem Qbj {f:Int→Int→Int} {xs ys:List Int} {j:Nat} (h1:j<xs.length) (h2:j<ys.length):(List.zipWith f xs ys).getD j 0=f (xs.getD j 0) (ys.getD j 0):=by
 simp[List.getD,List.getElem?_zipWith,List.getElem?_eq_getElem h1,List.getElem?_eq_getElem h2]
theorem Rec.set {r c i:Nat} {g:List (List Int)} {l:List Int} (h:Rec r c g) (hl:l.length=c):Rec r c (g.set i l) :=
 ⟨by rw [List.length_set, h.len], fun x hx => by
  rcases List.mem_or_eq_of_mem_set hx with hx|rfl
  ·exact h.row x hx
  ·exact hl⟩
theorem Rec.rows {r c i k:Nat} {t:Tn} {g:List (List Int)} (h:Rec r c g) (hi:i<r) (hk:k<r):Rec r c (XJ i k t g):=by
 have h1:=h.at hi
 have h2:=h.at hk
 exact(h.set (by rw[List.length_zipWith];omega)).set (by rw[List.length_zipWith];omega)
theorem Rec.cols {r c i k:Nat} {t:Tn} {g:List (List Int)} (h:Rec r c g):Rec r c (Xq i k t g) :=
 ⟨by unfold Xq; rw [List.length_map, h.len], fun x hx => by
  unfold Xq at hx
  obtain⟨y,hy,rfl⟩:=List.mem_map.1 hx
  rw[List.length_set,List.length_set];exact h.row y hy⟩
theorem WC {α:Type} {l:List α} {i j:Nat} {x d:α} (hi:i<l.length):(l.set i x).getD j d=if j=i then x else l.getD j d:=by
 rw[List.getD,List.getElem?_set]
 by_cases h:i=j
 ·subst h;simp[hi]
 ·rw[if_neg h,if_neg (fun e=>h e.symm)];rfl
theorem Wj {r c i k a b:Nat} {t:Tn} {g:List (List Int)} (h:Rec r c g) (hi:i<r) (hk:k<r) (hb:b<c):gE (XJ i k t g) a b=if a=k then t.q (gE g i b) (gE g k b) else if a=i then t.p (gE g i b) (gE g k b) else gE g a b:=by
 have h1:=h.at hi
 have h2:=h.at hk
 have hl:=h.len
 unfold gE XJ
 rw[WC (by rw[List.length_set];omega)]
 by_cases e1:a=k
 ·rw[if_pos e1,if_pos e1,Qbj oq oq]
 ·rw[if_neg e1,if_neg e1,WC oq]
  by_cases e2:a=i
  ·rw[if_pos e2,if_pos e2,Qbj oq oq]
  ·rw[if_neg e2,if_neg e2]
theorem Wk {r c i k a b:Nat} {t:Tn} {g:List (List Int)} (h:Rec r c g) (hi:i<c) (hk:k<c) (ha:a<r):gE (Xq i k t g) a b=if b=k then t.q (gE g a i) (gE g a k) else if b=i then t.p (gE g a i) (gE g a k) else gE g a b:=by
 have h1:=h.at ha
 have hl:=h.len
 have e:(Xq i k t g).getD a []=((g.getD a []).set i (t.p ((g.getD a []).getD i 0) ((g.getD a []).getD k 0))).set k (t.q ((g.getD a []).getD i 0) ((g.getD a []).getD k 0)):=by
  unfold Xq
  rw[List.getD,List.getElem?_map,List.getD,List.getElem?_eq_getElem (show a<g.length by omega)]
  rfl
 unfold gE
 rw[e,WC (by rw[List.length_set];omega)]
 by_cases e1:b=k
 ·rw[if_pos e1,if_pos e1]
 ·rw[if_neg e1,if_neg e1,WC oq]

structure Sm where
 u:List (List Int)
 ui:List (List Int)
 d:List (List Int)
 v:List (List Int)
 vi:List (List Int)
 deriving DecidableEq
structure Dm (m n:Nat) (S:Sm):Prop where
 u:Rec m m S.u
 ui:Rec m m S.ui
 d:Rec m n S.d
 v:Rec n n S.v
 vi:Rec n n S.vi
def Sm.rows (i k:Nat) (t:Tn) (S:Sm):Sm:=⟨XJ i k t S.u,Xq i k t.flip S.ui,XJ i k t S.d,S.v,S.vi⟩
def Sm.cols (i k:Nat) (t:Tn) (S:Sm):Sm:=⟨S.u,S.ui,Xq i k t S.d,Xq i k t S.v,XJ i k t.flip S.vi⟩
theorem Dm.rows {m n i k:Nat} {t:Tn} {S:Sm} (h:Dm m n S) (hi:i<m) (hk:k<m):Dm m n (S.rows i k t):=⟨h.u.rows hi hk,h.ui.cols,h.d.rows hi hk,h.v,h.vi⟩
theorem Dm.cols {m n i k:Nat} {t:Tn} {S:Sm} (h:Dm m n S) (hi:i<n) (hk:k<n):Dm m n (S.cols i k t):=⟨h.u,h.ui,h.d.cols,h.v.cols,h.vi.rows hi hk⟩

def jk (K:Nat) (g:List (List Int)):Bool:=g.all fun r=>r.all fun x=>decide (x.natAbs<256 ^ K)
theorem Zp {K:Nat} {g:List (List Int)} (h:jk K g=true) (a b:Nat):(gE g a b).natAbs<256 ^ K:=by
 unfold gE
 by_cases ha:a<g.length
 ·by_cases hb:b<(g.getD a []).length
  ·exact of_decide_eq_true (List.all_eq_true.1 (List.all_eq_true.1 h _ (YA ha)) _ (YA hb))
  ·rw[List.getD,List.getElem?_eq_none oq];exact bG K
 ·have:g.getD a []=[]:=by rw[List.getD,List.getElem?_eq_none oq];rfl
  rw[this];exact bG K
def Sm.ok (K:Nat) (S:Sm):Bool:=jk K S.u && jk K S.ui && jk K S.d && jk K S.v && jk K S.vi
structure Ok (K:Nat) (S:Sm):Prop where
 u:jk K S.u=true
 ui:jk K S.ui=true
 d:jk K S.d=true
 v:jk K S.v=true
 vi:jk K S.vi=true
theorem Ok.of {K:Nat} {S:Sm} (h:S.ok K=true):Ok K S:=by
 unfold Sm.ok at h
 simp only[Bool.and_eq_true]at h
 exact⟨h.1.1.1.1,h.1.1.1.2,h.1.1.2,h.1.2,h.2⟩
theorem Ok.ok {K:Nat} {S:Sm} (h:Ok K S):S.ok K=true:=by
 unfold Sm.ok
 simp only[Bool.and_eq_true]
 exact⟨⟨⟨⟨h.u,h.ui⟩,h.d⟩,h.v⟩,h.vi⟩
def ck (K:Nat) (S:Sm):Option Sm:=if S.ok K then some S else none
theorem Zl {K:Nat} {S S':Sm} (h:ck K S=some S'):S'=S∧Ok K S:=by
 unfold ck at h
 split at h
 ·rename_i h1
  cases h
  exact⟨rfl,Ok.of h1⟩
 ·cases h

def Z5 (x y:Int):Option (Tn × Bool) :=
 if y=0 then none
 else if x≠0∧y % x=0 then some (⟨1,0,-(y / x),1⟩,false)
 else some (⟨(dB x y).2.1,(dB x y).2.2,-(y / (dB x y).1),x / (dB x y).1⟩,true)
def gQ (K t i:Nat) (S:Sm):Option (Sm × Bool):=match Z5 (gE S.d t t) (gE S.d i t)with
 | none=>some (S,false)
 | some (tn,ch)=>match ck K (S.rows t i tn)with
  | some S'=>some (S',ch)
  | none=>none
def gU (K t j:Nat) (S:Sm):Option (Sm × Bool):=match Z5 (gE S.d t t) (gE S.d t j)with
 | none=>some (S,false)
 | some (tn,ch)=>match ck K (S.cols t j tn)with
  | some S'=>some (S',ch)
  | none=>none
def rowP (K t:Nat):Nat→Nat→Sm→Option Sm
 | 0,_,S=>some S
 | k+1,i,S=>match gQ K t i S with
  | some r=>rowP K t k (i+1) r.1
  | none=>none
def dP (K t:Nat):Nat→Nat→Bool→Sm→Option (Sm × Bool)
 | 0,_,ch,S=>some (S,ch)
 | k+1,j,ch,S=>match gU K t j S with
  | some r=>dP K t k (j+1) (ch || r.2) r.1
  | none=>none
def ZG (K t m n:Nat):Nat→Sm→Option Sm
 | 0,_=>none
 | f + 1, S => match rowP K t (m - (t + 1)) (t + 1) S with
  | none=>none
  | some S1=>match dP K t (n-(t+1)) (t+1) false S1 with
   | none=>none
   | some r=>if r.2 then ZG K t m n f r.1 else some r.1
def iJ (a b:Int):Int:=if b=0 then 0 else a % b
def X3 (S:Sm) (t n i:Nat):Bool:=(List.range' (t+1) (n-(t+1))).any fun j=>decide (iJ (gE S.d i j) (gE S.d t t)≠0)
def Z0 (S:Sm) (t m n:Nat):Option Nat:=(List.range' (t+1) (m-(t+1))).find? fun i=>X3 S t n i
def Zz (K fc t m n:Nat):Nat→Sm→Option Sm
 | 0,_=>none
 | f + 1, S => match ZG K t m n fc S with
  | none=>none
  | some S1 => match Z0 S1 t m n with
   | none=>some S1
   | some i=>match ck K (S1.rows t i ⟨1,1,0,1⟩)with
    | none=>none
    | some S2=>Zz K fc t m n f S2
def Q2g (S:Sm) (t m n:Nat):Option (Nat × Nat):=(List.range' t (n-t)).findSome? fun j=>((List.range' t (m-t)).find? fun i=>decide (gE S.d i j≠0)).map fun i=>(i,j)
def X1 (K t m n:Nat) (S:Sm):Option (Sm × Bool):=match Q2g S t m n with
 | none=>some (S,false)
 | some (i, j) => match (if i = t then some S else ck K (S.rows t i ⟨0, 1, -1, 0⟩)) with
  | none=>none
  | some S1=>match (if j=t then some S1 else ck K (S1.cols t j ⟨0,1,-1,0⟩))with
   | none=>none
   | some S2=>some (S2,true)
def negR (t:Nat) (g:List (List Int)):List (List Int):=g.set t ((g.getD t []).map fun x => -x)
def negC (t:Nat) (g:List (List Int)):List (List Int):=g.map fun r=>r.set t (-(r.getD t 0))
def Sm.neg (t:Nat) (S:Sm):Sm:=⟨negR t S.u,negC t S.ui,negR t S.d,S.v,S.vi⟩
def ZF (K fc f m n:Nat):Nat→Nat→Sm→Option Sm
 | 0,_,S=>some S
 | k + 1, t, S => match X1 K t m n S with
  | none=>none
  | some r => if r.2 then match Zz K fc t m n f r.1 with
    | none=>none
    | some S2=>ZF K fc f m n k (t+1) (if gE S2.d t t<0 then S2.neg t else S2)
   else some r.1
def fJ (n:Nat):List (List Int):=(List.range n).map fun i=>(List.range n).map fun j=>if i=j then 1 else 0
def QY (m n:Nat) (a:List (List Int)):Sm:=⟨fJ m,fJ m,a,fJ n,fJ n⟩


def Zeros (r c:Nat) (w:World) (v:Value) (w':World):Prop:=∃ N E,New N w w'∧v=.agg #[nv r,nv c,E]∧aG N E (r*c) (tab (r*c) fun _=>0)

theorem Qdn (r c:Nat) (hr:r≤200) (hc:c≤200) (w:World):Calls Tryz.prog 63 #[.int .i64 r,.int .i64 c] w (aP fun v w'=>Kp [] w w'∧Zeros r c w v w'):=by
 have hb:=rcZ hr hc
 refine Q9 [] [] au [] Tryz.func63 rfl mixed (by kernel_rfl) Tryz.ntmps63 Tryz.results63 rfl ⟨by simp,by simp⟩ au ?_
 simp only[toS,Qd,Qt,Qk,Ql,ay,Qg,QA,aC]
 repeat' first|apply jS|apply jO|apply jN|refine Q1 ?_|refine Qc fun _=>?_|apply jT
 refine Q5 trivial rfl rfl rfl (fun w _ _=>Qiw r c w) fun w v w' _ _ _ hR=>?_
 obtain⟨b,rfl,hb⟩:=hR
 obtain rfl:=hb.2 oq
 repeat' first|apply jS|apply jO|apply jN|apply jT|refine Q1 ?_|refine ZK (h:=?_)|refine QV (h:=?_)|apply jK|refine Q4 rfl ?_
 refine Yv rfl rfl rfl rfl rfl oq oq (fun b=>?_)
 repeat' first|apply jN|apply jT|refine Q2 ?_|refine Zh (h:=?_)|refine Q2 ?_|apply jR
 have:=Xc b (r*c) (by simp only[maxLen];omega)
 exact QQ 1 rfl rfl rfl (fun a w st=>⟨st.kp,_,_,st.aS rfl (HSub.at 0 rfl (HSub.nil _)),rfl,this⟩)

def oneS (n k:Nat):List Int:=gu n n fun a b=>if a=b∧a<k then 1 else 0
theorem Q96 (n:Nat):oneS n 0=tab (n*n) fun _=>0:=by
 rw[← Q70]
 exact Z3 fun i j _ _=>by simp
theorem Qco {n k:Nat} (hk:k<n):(oneS n k).set (k*n+k) 1=oneS n (k+1):=by
 unfold oneS
 rw[Q71 hk]
 refine Z3 fun a b ha hb=>?_
 by_cases h:a=k∧b=k
 ·obtain⟨rfl,rfl⟩:=h
  simp
 ·rw[if_neg h]
  by_cases h2:a=b∧a<k
  ·rw[if_pos h2,if_pos ⟨h2.1,by omega⟩]
  ·rw[if_neg h2,if_neg]
   rintro⟨rfl,h3⟩
   rcases Nat.lt_or_ge a k with h4|h4
   ·exact h2 ⟨rfl,h4⟩
   ·exact h ⟨by omega,by omega⟩
theorem Qcp (n:Nat):oneS n n=(gy n).e:=Z3 fun a b ha hb=>by
 unfold dO
 by_cases h:a=b
 ·rw[if_pos ⟨h,ha⟩,if_pos h]
 ·rw[if_neg (fun h2=>h h2.1),if_neg h]

theorem Qsl (n:Nat) (hn:n≤200) (w:World):Calls Tryz.prog 90 #[nv n] w (aP fun v w'=>Kp [] w w'∧Q36 (gy n) w v w'):=by
 have hnn:=rcZ hn hn
 refine Q9 [⟨5,2,[],[]⟩] [] au [] Tryz.func90 rfl mixed (by kernel_rfl) Tryz.ntmps90 Tryz.results90 rfl ⟨by simp,by simp⟩ au ?_
 simp only[toS,Qd,Qt,Qk,Ql,ay,Qg,QA,aC]
 repeat' first|apply jS|apply jO|apply jN|refine Q1 ?_|refine Qc fun _=>?_|apply jT
 rename_i b2
 refine Qf (A:=[_]) (B:=[]) rfl trivial rfl rfl rfl (fun w _ _=>Qdn n n hn hn w) fun w v w' _ _ _ hR=>?_
 obtain⟨N,Eo,hN,rfl,hO⟩:=hR
 obtain⟨Ao,co,rfl⟩:=hO.form
 refine⟨N,hN,?_⟩
 repeat' first|apply jS|apply jO|apply jN|apply jT|refine Q1 ?_|refine Q3 ?_|refine Qb ?_|refine Q2 ?_|refine Qc fun _=>?_|refine Q2 ?_|apply jB
 rename_i b3
 refine Qp (ι:=Nat × aj) ⟨fun z=>[(10,nv z.1),(9,nv n),(0,nv n),(3,.pointer (some ⟨b3,0,none⟩)),(2,.pointer (some ⟨b2,0,none⟩))],
  fun z=>[(b3,.cells #[nv n,nv n,.slice Ao (n*n) co] 26),(b2,.cells #[iv 0,iv 0,.slice none 0 0] 26)]++(z.2++[]),
  fun z=>z.1≤n∧aG z.2 (.slice Ao (n*n) co) (n*n) (oneS n z.1),fun z=>n-z.1⟩ (0,N) ⟨by omega,by rw[Q96];exact hO⟩ aF Qy (fun k hk=>?_)
 obtain⟨k,N⟩:=k
 obtain⟨hkn,hO⟩:=hk
 dsimp only at hkn hO ⊢
 have hkk:k*n≤40000:=Vr (show k≤200 by omega) hn
 by_cases hlt:k<n
 ·have hi:=Q0z hlt hlt
  repeat' first|apply jS|apply jO|apply jD|apply jN|apply jT|refine Q1 ?_|refine Q3 ?_|refine Q0 ?_|refine Qb ?_|refine Zf (h:=?_)|refine ZK (h:=?_)|(refine Qs (h1:=?_) (h2:=?_)<;>intro hc<;>try omega)|apply jK|refine Q8 rfl ?_|apply jB
  refine Q5 aA rfl rfl rfl (fun w _ _=>WE w 1 oq oq) fun w v w' _ _ _ hR=>?_
  subst hR
  repeat' first|refine Zn (h:=?_)|fail
  refine Q27 (A:=[_,_]) hO rfl rfl ⟨rfl,rfl⟩ rfl rfl hi (fun N' aU=>?_)
  rw[Qco hlt]at aU
  repeat' first|apply jO|apply jN|apply jT|refine Q1 ?_|refine Qj ?_|apply jW
  exact Qa (k+1,N') ⟨by dsimp only;omega,aU⟩ aY aF Qy
 ·repeat' first|apply jS|apply jO|apply jN|apply jT|refine Q7 ?_|refine Q2 ?_|(refine Qs (h1:=?_) (h2:=?_)<;>intro hc<;>try omega)|refine Q2 ?_|apply jU|apply jE|apply jR|refine Q4 rfl ?_|apply Qe
  obtain rfl:k=n:=by omega
  rw[Qcp]at hO
  exact QQ 1 rfl rfl rfl (fun a w' st=>⟨st.kp,N,st.aS rfl Q6,fZ.mk' hO⟩)

theorem Wz0:Wv 0=wv false []:=congrArg xv eU
def atZ (m:ZM) (i j:Int):Int:=if 0≤i∧i<m.r∧0≤j∧j<m.c then m.at i.toNat j.toNat else 0

theorem c_At (w:World) (v:Value) (m:ZM) (i j:Int) (hm:cO m) (hv:fO w v m):Calls Tryz.prog 64 #[v,iv i,iv j] w (aP fun v w'=>Kp [] w w'∧v=Wv (atZ m i j)):=by
 have jI:=hv.x
 obtain⟨E,rfl,hE⟩:=hv
 have hl:=hm.len
 have hle:=hm.le
 by_cases h:0≤i∧i<m.r∧0≤j∧j<m.c
 ·obtain⟨i,rfl⟩:=Int.eq_ofNat_of_zero_le h.1
  obtain⟨j,rfl⟩:=Int.eq_ofNat_of_zero_le h.2.2.1
  have hi:i<m.r:=by omega
  have hj:j<m.c:=by omega
  have hlt:=Q0z hi hj
  have e:atZ m i j=m.e.getD (i*m.c+j) 0:=if_pos h
  rw[e]
  refine Q9 [] [] au [] Tryz.func64 rfl mixed (by kernel_rfl) Tryz.ntmps64 Tryz.results64 rfl ⟨by simp,by simp⟩ au ?_
  simp only[toS,Qd,Qt,Qk,Ql,ay,Qg,QA,aC]
  repeat' first|apply jS|apply jO|apply jN|refine Q7 ?_|refine Qc fun _=>?_|refine QB fun _=>?_|apply jT
  refine Q5 trivial rfl rfl rfl (fun w hk _=>YY w _ m.xm (jI.mono hk) (by simp[ZM.xm];omega)) fun w v w' _ _ _ hR=>?_
  obtain⟨b,rfl,hb⟩:=hR
  obtain rfl:=hb.2 hm.rx
  have hic:i*m.c≤40000:=by omega
  repeat' first|apply jS|apply jO|apply jN|apply jT|refine Q1 ?_|refine Q3 ?_|refine Qb ?_|refine Zn (h:=?_)|refine XD (h:=?_)|refine Zf (h:=?_)|refine ZK (h:=?_)|refine Qea (h:=?_)|refine QC (h:=?_)|refine QV (h:=?_)|refine Q2 ?_|(refine Qs (h1:=?_) (h2:=?_)<;>intro hc<;>try omega)|(refine Yx (h1:=?_) (h2:=?_)<;>intro hc<;>try omega)|refine Q2 ?_|apply jK|apply jR|refine Q4 rfl ?_
  exact QQ 0 rfl rfl rfl (fun a w st=>⟨st.kp,rfl⟩)
 ·have e:atZ m i j=0:=if_neg h
  rw[e]
  refine Q9 [] [] au [] Tryz.func64 rfl mixed (by kernel_rfl) Tryz.ntmps64 Tryz.results64 rfl ⟨by simp,by simp⟩ au ?_
  simp only[toS,Qd,Qt,Qk,Ql,ay,Qg,QA,aC]
  repeat' first|apply jS|apply jO|apply jN|refine Q7 ?_|refine Qc fun _=>?_|refine QB fun _=>?_|apply jT
  refine Q5 trivial rfl rfl rfl (fun w hk _=>YY w _ m.xm (jI.mono hk) (by simp[ZM.xm];omega)) fun w v w' _ _ _ hR=>?_
  obtain⟨b,rfl,hb⟩:=hR
  obtain rfl:=hb.2 hm.rx
  repeat' first|apply jS|apply jO|apply jN|apply jT|refine Q1 ?_|refine Q3 ?_|refine Qb ?_|refine Qea (h:=?_)|refine QD (h:=?_)|refine QC (h:=?_)|refine QV (h:=?_)|refine Q2 ?_|(refine Qs (h1:=?_) (h2:=?_)<;>intro hc<;>try omega)|(refine Yx (h1:=?_) (h2:=?_)<;>intro hc<;>try omega)|refine Zh (h:=?_)|refine Q2 ?_|apply jV|refine Q8 rfl ?_|refine QU (h:=?_)|apply jR
  all_goals first
   | (exfalso;split at * <;> omega)
   | exact QQ 0 rfl rfl rfl (fun a w st=>⟨st.kp,by rw[Wz0];rfl⟩)

theorem QN {P:Program} {f:FuncId} {args:Array Value} {w:World} {R R':Value→World→Prop} (h:Calls P f args w (aP R)) (hr:∀ v w',R v w'→R' v w'):Calls P f args w (aP R') :=
 Calls.mono h fun e w' he=>by
  cases e<;>first|exact hr _ _ he|exact he

def fK (K:Nat) (xs:List Int):Prop:=∀ i,(xs.getD i 0).natAbs<256 ^ K

theorem Q6u {f:Nat→Int} {n k:Nat}:(tab n fun i=>if i<k then f i else 0).set k (f k)=tab n fun i=>if i<k+1 then f i else 0:=by
 rw[Qac]
 refine Y0 fun i hi=>?_
 by_cases h:i=k
 ·subst h;simp
 ·by_cases h':i<k
  ·rw[if_neg h,if_pos h',if_pos oq]
  ·rw[if_neg h,if_neg h',if_neg oq]

end Go.Proofs.YtljmapfihjkafaaGreatDoor

namespace Go.Proofs.YtljmapfihjkafaaGreatDoor
open Go Go.RowKit Go.Shelf
set_option linter.unusedSimpArgs false
set_option linter.unusedVariables false
set_option linter.unusedSectionVars false

attribute [local go_sem] Oper.semAt_some

def iT (A:Option Addr) (cap c i:Nat):Value:=.slice (if cap=i*c then A else A.map (·.add (i*c*2))) ((i+1)*c-i*c) (cap-i*c)

set_option maxRecDepth 100000 in
theorem Qjw (n:Nat) (hn:1≤n) (l bx r c k cap:Nat) (A:Option Addr) (hr:r≤200) (hc:c≤200) (hl:r*c≤k) (hk:k≤cap) (J Jx:List {i:Nat // i<r}→World→Prop)
  (hY : ∀ pre (x : {i : Nat // i < r}) W, J pre W → pre.length < r → YieldAt Fence.wide (n - 1) Tryz.prog l #[nv x.1, iT A cap c x.1] W fun e W' =>
   (e=.returned (.bool true)∧J (pre++[x]) W'∧KB [bx] W W')∨(e=.returned (.bool false)∧Jx (pre++[x]) W'))
  (W:World) (hB:W.heap[bx]?=some (.cells #[nv r,nv c,.slice A k cap] 26)) (h0:J [] W) :
  CallsIn Fence.wide n Tryz.prog 136 #[.func (.yield l) #[] #[],.pointer (some ⟨bx,0,none⟩)] W fun e W'=>(∃ v,e=.returned v) ∧
   ((∃ ys:List {i:Nat // i<r},ys.map (·.1)=List.range r∧J ys W')∨(∃ pre,True∧Jx pre W')):=by
 have hb0:W.cell? ⟨bx,0,none⟩=some (nv r):=QP hB rfl
 have hb1:W.cell? ⟨bx,1,none⟩=some (nv c):=QP hB rfl
 have hb2:W.cell? ⟨bx,2,none⟩=some (.slice A k cap):=QP hB rfl
 refine callsIn_of_wp Tryz.func136 rfl trivial ?_ rfl
 simp only[Tryz.ntmps136,List.size_toArray,List.length_cons,List.length_nil,Nat.reduceAdd,Nat.reduceSub,Array.replicate_succ,Array.replicate_zero,List.push_toArray,List.append_toArray,Vv,Vi]
 gi_wp2
 gi_loopw [6] (fun i wr=>∃ q:Nat,q≤r∧i=.int .i64 (q:Int)∧(∃ ys:List {i:Nat // i<r},ys.map (·.1)=List.range q∧J ys wr)∧KB [bx] W wr)
  (fun i _=>(r-intOf i).toNat)
 case atStart=>exact⟨0,V9 _,by simp,⟨[],rfl,h0⟩,KB.refl _ _⟩
 case round =>
  obtain⟨q,hq,rfl,⟨ys,hys,hJs⟩,hnx⟩:=hrel
  have hw0:wr.cell? ⟨bx,0,none⟩=some (nv r):=(hnx.cell (p:=⟨bx,0,none⟩) au).trans hb0
  have hw1:wr.cell? ⟨bx,1,none⟩=some (nv c):=(hnx.cell (p:=⟨bx,1,none⟩) au).trans hb1
  have hw2:wr.cell? ⟨bx,2,none⟩=some (.slice A k cap):=(hnx.cell (p:=⟨bx,2,none⟩) au).trans hb2
  by_cases hlt:q<r
  ·obtain⟨fn,tmps,assign,body,hy,hR⟩:=hY ys ⟨q,hlt⟩ wr hJs (by have:=congrArg List.length hys;rw[List.length_map,List.length_range]at this;omega)
   dsimp only at hy
   have hqc:q*c≤40000:=Vr (show q≤200 by omega) hc
   have hqc1:(q+1)*c≤r*c:=Q3u hlt
   have hqc2:(q+1)*c≤40000:=V0 hqc1 (rcZ hr hc)
   have e:((q:Int)+1)*(c:Int)=(((q+1)*c:Nat):Int):=by simp
   have hI0:0≤((q:Int)+1)*(c:Int):=by rw[e];exact Int.natCast_nonneg _
   have hI1:((q:Int)+1)*(c:Int)≤(cap:Int):=by rw[e];omega
   have hI3:((q:Int)+1)*(c:Int)≤40000:=by rw[e];omega
   have hI2:(q:Int)*(c:Int)≤((q:Int)+1)*(c:Int):=by rw[Int.add_mul];omega
   have e2:(q+1)*c=(((q:Int)+1)*(c:Int)).toNat:=by rw[e];rfl
   by_cases hcc:cap=q*c
   ·subst hcc
    simp only[iT,if_true,Nat.sub_self]at hy
    clear e e2
    gi_wp2
    refine hR.mono ?_
    rintro e W3 (⟨rfl,hJ3,hk3⟩|⟨rfl,hJx3⟩)
    ·gi_wp2
     go_roundw
     case rel=>exact⟨q+1,by omega,by simp,⟨_,by rw[Vl,hys,List.range_succ];rfl,hJ3⟩,hnx.trans hk3⟩
     case measure=>first|(simp[intOf];done)|(simp[intOf];omega)
    ·gi_wp2
     refine bodyPost_ret (results_none rfl _ _ _) rfl ?_
     exact⟨⟨_,rfl⟩,.inr ⟨_,trivial,hJx3⟩⟩
   ·simp only[iT,if_neg hcc]at hy;clear e e2
    gi_wp2
    refine hR.mono ?_
    rintro e W3 (⟨rfl,hJ3,hk3⟩|⟨rfl,hJx3⟩)
    ·gi_wp2
     go_roundw
     case rel=>exact⟨q+1,by omega,by simp,⟨_,by rw[Vl,hys,List.range_succ];rfl,hJ3⟩,hnx.trans hk3⟩
     case measure=>first|(simp[intOf];done)|(simp[intOf];omega)
    ·gi_wp2
     refine bodyPost_ret (results_none rfl _ _ _) rfl ?_
     exact⟨⟨_,rfl⟩,.inr ⟨_,trivial,hJx3⟩⟩
  ·obtain rfl:q=r:=by omega
   gi_wp2
   go_end0
   exact⟨⟨_,rfl⟩,.inl ⟨ys,hys,hJs⟩⟩

theorem Q4f {r c k cap bx:Nat} {A:Option Addr} (hr:r≤200) (hc:c≤200) (hl:r*c≤k) (hk:k≤cap) :
  Qjg Tryz.prog 136 #[.pointer (some ⟨bx,0,none⟩)] (fun i=>nv i) (iT A cap c) r bx (.cells #[nv r,nv c,.slice A k cap] 26):=fun n w hn hb l J Jx W hW _ _ hY h0 =>
 Qjw n hn l bx r c k cap A hr hc hl hk J Jx hY W ((hW.block bx (Array.getElem?_eq_some_iff.1 hb).1).trans hb) h0

end Go.Proofs.YtljmapfihjkafaaGreatDoor

