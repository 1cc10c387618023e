import Derived.Test.YtbofgpenopcfaaaGreatDoorMa
set_option maxHeartbeats 16000000
namespace Go.Proofs.YtbofgpenopcfaaaGreatDoor
open Go Go.RowKit
set_option linter.unusedSimpArgs false
set_option linter.unusedVariables false
set_option linter.unusedSectionVars false

def HSub (H' H:aj):Prop:=∃ l,H.Perm (H'++l)

theorem HSub.nil (H:aj):HSub [] H:=⟨H,by simp⟩
theorem HSub.refl (H:aj):HSub H H:=⟨[],by simp⟩
theorem YU {α:Type}:∀ (l:List α) (k:Nat) (h:k<l.length),(l[k]::l.eraseIdx k).Perm l
 | a::l,0,_=>by simp
 | a::l,k+1,h=>by
  simp only[List.getElem_cons_succ,List.eraseIdx_cons_succ]
  exact(List.Perm.swap _ _ _).trans ((YU l k (by simpa using h)).cons a)
theorem HSub.at {H r:aj} {p:Nat × Obj} (k:Nat) (hk:H[k]?=some p) (h:HSub r (H.eraseIdx k)):HSub (p::r) H:=by
 obtain⟨l,hl⟩:=h
 refine⟨l,?_⟩
 obtain⟨h1,h2⟩:=List.getElem?_eq_some_iff.1 hk
 have:H.Perm (H[k]::H.eraseIdx k):=(List.Perm.symm (YU H k h1))
 rw[h2]at this
 exact this.trans (hl.cons p)
theorem HSub.sub {H' H:aj} (h:H'.Sublist H):HSub H' H:=by
 induction h with
 | slnil=>exact HSub.nil _
 | cons a _ ih =>
  obtain⟨l,hl⟩:=ih
  exact⟨a::l,(hl.cons a).trans List.perm_middle.symm⟩
 | cons_cons a _ ih =>
  obtain⟨l,hl⟩:=ih
  exact⟨l,by simpa using hl⟩
theorem HSub.mem {H' H:aj} (h:HSub H' H):∀ p∈H',p∈H:=fun p hp=>by
 obtain⟨l,hl⟩:=h
 exact hl.mem_iff.2 (List.mem_append.2 (.inl hp))
theorem HSub.trans {A B C:aj} (h:HSub A B) (k:HSub B C):HSub A C:=by
 obtain⟨l,hl⟩:=h
 obtain⟨m,hm⟩:=k
 exact⟨l++m,hm.trans (by rw[← Vb];exact hl.append_right m)⟩
theorem HSub.nodup {H' H:aj} (h:HSub H' H) (hn:(H.map (·.1)).Nodup):(H'.map (·.1)).Nodup:=by
 obtain⟨l,hl⟩:=h
 have:=(hl.map (·.1)).nodup_iff.1 hn
 rw[Vj,List.nodup_append]at this
 exact this.1
theorem HSub.aV {H' H:aj} {w:World} (h:HSub H' H) (hs:aG H w):aG H' w:=hs.sub h.mem (h.nodup hs.nd)

section
variable {c:Cx} {Q:Exit→Act→World→Prop} {F:ak} {H:aj} {s:dZ}

theorem St.part {F':ak} {H':aj} {a:Act} {w:World} (h:St c F H a w) (hf:cov F F') (hh:HSub H' H):St c F' H' a w :=
 ⟨⟨h.fr.defers,h.fr.size,fun i v hl=>h.fr.fr i v (WB hf i v hl)⟩,h.kp,hh.aV h.hs,fun p hp=>h.wr p (hh.mem p hp)⟩

theorem Qn {ι:Type} (I:LInv ι) (i0:ι) (hp:I.p i0) (hf:cov F (I.F i0)) (hh:HSub (I.H i0) H)
  (round:∀ i,I.p i→JC c (Exit.then (I.next c i) Q) s (I.F i) (I.H i)):JC c Q (.loop s) F H:=by
 refine⟨fun a w st=>?_⟩
 refine⟨fun n a w=>∃ i,I.p i∧I.m i=n∧St c (I.F i) (I.H i) a w,⟨I.m i0,i0,hp,rfl,st.part hf hh⟩,?_⟩
 rintro n a w ⟨i,hi,rfl,st⟩
 exact(round i hi).h a w st

theorem Q8 {ι:Type} {I:LInv ι} {i:ι} (j:ι) (hp:I.p j) (hm:I.m j<I.m i) (hf:cov F (I.F j)) (hh:HSub (I.H j) H):JX c (Exit.then (I.next c i) Q) .normal F H :=
 ⟨fun _ _ st=>⟨I.m j,hm,j,hp,rfl,st.part hf hh⟩⟩

theorem JC.part {F':ak} {H':aj} (hf:cov F F') (hh:HSub H' H) (h:JC c Q s F' H'):JC c Q s F H:=⟨fun a w st=>h.h a w (st.part hf hh)⟩
theorem JX.part {e:Exit} {F':ak} {H':aj} (hf:cov F F') (hh:HSub H' H) (h:JX c Q e F' H'):JX c Q e F H:=⟨fun a w st=>h.h a w (st.part hf hh)⟩
end

theorem HSub.hd {p:Nat × Obj} {T:aj}:HSub [p] (p::T):=HSub.at 0 rfl (HSub.nil _)
theorem HSub.dJ {N B:aj}:HSub N (N++B):=⟨B,List.Perm.refl _⟩
theorem HSub.skip {N T:aj} {p:Nat × Obj} (h:HSub N T):HSub N (p::T):=h.trans (HSub.sub (List.sublist_cons_self _ _))
theorem Qf {N T M:aj} (h:HSub N T):HSub N (M++T):=h.trans (HSub.sub (List.sublist_append_right _ _))

theorem XY {c:Cx} {Q:Exit→Act→World→Prop} {F:ak} {H:aj} {l:List bT} (Hs:aj) (hs:HSub Hs H) (h:JO c Q (.draw Hs true) l F H):JC c Q (.opsD l) F H:=⟨fun _ _ st=>⟨F,H,Hs,st,hs.aV st.hs,h.h⟩⟩

theorem at0 {α:Type} {a0:α} {l:List α}:(a0::l)[0]?=some a0:=rfl
theorem at1 {α:Type} {a0 a1:α} {l:List α}:(a0::a1::l)[1]?=some a1:=rfl
theorem at2 {α:Type} {a0 a1 a2:α} {l:List α}:(a0::a1::a2::l)[2]?=some a2:=rfl
theorem at3 {α:Type} {a0 a1 a2 a3:α} {l:List α}:(a0::a1::a2::a3::l)[3]?=some a3:=rfl
theorem at4 {α:Type} {a0 a1 a2 a3 a4:α} {l:List α}:(a0::a1::a2::a3::a4::l)[4]?=some a4:=rfl
theorem at5 {α:Type} {a0 a1 a2 a3 a4 a5:α} {l:List α}:(a0::a1::a2::a3::a4::a5::l)[5]?=some a5:=rfl

def dK:Value→Nat→Addr
 | .slice (some a) _ _,j=>⟨a.block,a.off+j,none⟩
 | _,j=>⟨0,j,none⟩

@[simp] theorem Wf (b o n k j:Nat) (s:Option _):dK (.slice (some ⟨b,o,s⟩) n k) j=⟨b,o+j,none⟩:=rfl

def jc (w:World) (sz:Nat) (v:Value) (n:Nat) (cs:List Value):Prop :=
 cs.length=n*sz∧∃ A cap,v=.slice A n cap∧n≤cap∧(0<n→(∃ b o,A=some ⟨b,o,none⟩)∧∀ j u,cs[j]?=some u→w.cell? (dK v j)=some u)

def Rd (c:Cx) (N:aj) (sz:Nat) (v:Value) (n:Nat) (cs:List Value):Prop :=
 cs.length=n*sz∧∃ A cap,v=.slice A n cap∧n≤cap∧(0<n→(∃ b o,A=some ⟨b,o,none⟩)∧∀ w,Src c N w→∀ j u,cs[j]?=some u→w.cell? (dK v j)=some u)

theorem jc.mono {w w':World} {sz n:Nat} {v:Value} {cs:List Value} (h:jc w sz v n cs) (hk:Kp [] w w'):jc w' sz v n cs:=by
 obtain⟨hl,A,cap,rfl,hn,h⟩:=h
 refine⟨hl,A,cap,rfl,hn,fun h0=>⟨(h h0).1,fun j u hu=>?_⟩⟩
 have:=(h h0).2 j u hu
 have hb:=hk.block _ (Yt this) aA
 unfold World.cell? at this ⊢
 rw[hb];exact this

theorem jc.rd {c:Cx} {sz n:Nat} {v:Value} {cs:List Value} (h:jc c.w0 sz v n cs) (hM:c.M=[]) (N:aj):Rd c N sz v n cs:=by
 obtain⟨hl,A,cap,rfl,hn,h⟩:=h
 refine⟨hl,A,cap,rfl,hn,fun h0=>⟨(h h0).1,fun w hw j u hu=>?_⟩⟩
 exact Qal hw.1 ((h h0).2 j u hu) (by simp[hM])

theorem Qmv {c:Cx} {sz n:Nat} {v:Value} {cs:List Value} (h:jc c.w0 sz v n cs) (hM:0<n→(dK v 0).block∉c.M) (N:aj):Rd c N sz v n cs:=by
 obtain⟨hl,A,cap,rfl,hn,h⟩:=h
 refine⟨hl,A,cap,rfl,hn,fun h0=>⟨(h h0).1,fun w hw j u hu=>?_⟩⟩
 refine Qal hw.1 ((h h0).2 j u hu) ?_
 obtain⟨b,o,rfl⟩:=(h h0).1
 exact hM h0

theorem Src.part {c:Cx} {N H:aj} {w:World} (h:Src c H w) (hs:HSub N H):Src c N w:=⟨h.1,hs.aV h.2⟩

theorem Rd.at {c:Cx} {N H:aj} {w:World} {sz n:Nat} {v:Value} {cs:List Value} (h:Rd c N sz v n cs) (hk:Kp c.M c.w0 w) (hs:aG H w) (hN:HSub N H):jc w sz v n cs:=by
 obtain⟨hl,A,cap,rfl,hn,h⟩:=h
 exact⟨hl,A,cap,rfl,hn,fun h0=>⟨(h h0).1,fun j u hu=>(h h0).2 w ⟨hk,hN.aV hs⟩ j u hu⟩⟩

theorem Qpw {c:Cx} {N N':aj} {sz n:Nat} {v:Value} {cs:List Value} (h:Rd c N sz v n cs) (hN:HSub N N'):Rd c N' sz v n cs:=by
 obtain⟨hl,A,cap,rfl,hn,h⟩:=h
 exact⟨hl,A,cap,rfl,hn,fun h0=>⟨(h h0).1,fun w hw j u hu=>(h h0).2 w (hw.part hN) j u hu⟩⟩

theorem aH.rd {c:Cx} {e:TypeId} {N:aj} {sz n:Nat} {v:Value} {cs:List Value} (h:aH e sz N v n cs):Rd c N sz v n cs:=by
 obtain⟨hl,⟨rfl,rfl,rfl⟩|⟨b,cap,cur,rfl,rfl,h2,h3,h4,h5⟩⟩:=h
 ·exact⟨hl,none,0,rfl,V7 _,fun h=>by omega⟩
 ·refine⟨hl,_,cap,rfl,h2,fun h0=>⟨⟨b,0,rfl⟩,fun w hw j u hu=>?_⟩⟩
  rw[← h5,List.getElem?_take]at hu
  split at hu
  ·simp only[Wf,Vq]
   exact Z4 (hw.2.blk (b,.cells cur e (0,0)) (List.mem_singleton.2 rfl)) (by simpa using hu)
  ·cases hu

theorem aH.mk' {e:TypeId} {sz n b:Nat} {cs:Array Value} (hl:cs.size=n*sz) (hn:n≤maxLen):aH e sz [(b,.cells cs e)] (.slice (some ⟨b,0,none⟩) n n) n cs.toList :=
 ⟨by simpa using hl,.inr ⟨b,n,cs,rfl,rfl,V7 _,hn,hl,by rw[Vd (by simp[hl])]⟩⟩

theorem aH.blk {e:TypeId} {sz n b:Nat} {cs:Array Value} (hl:cs.size=n*sz) (hn:n≤maxLen):aH e sz [(b,.cells cs e (0,0))] (.slice (some ⟨b,0,none⟩) n n) n cs.toList:=aH.mk' hl hn

theorem New.rd {c:Cx} {e:TypeId} {N:aj} {sz n:Nat} {v:Value} {cs:List Value} {w w':World} (h:aH e sz N v n cs) (hn:New N w w'):jc w' sz v n cs:=by
 obtain⟨hl,⟨rfl,rfl,rfl⟩|⟨b,cap,cur,rfl,rfl,h2,h3,h4,h5⟩⟩:=h
 ·exact⟨hl,none,0,rfl,V7 _,fun h=>by omega⟩
 ·refine⟨hl,_,cap,rfl,h2,fun h0=>⟨⟨b,0,rfl⟩,fun j u hu=>?_⟩⟩
  rw[← h5,List.getElem?_take]at hu
  split at hu
  ·simp only[Wf,Vq]
   exact Z4 (hn.blk (b,.cells cur e (0,0)) (List.mem_singleton.2 rfl)) (by simpa using hu)
  ·cases hu

theorem St.bI {c:Cx} {F:ak} {H N:aj} {a:Act} {w:World} (st:St c F H a w) (hM:c.M=[]) (hN:HSub N H):New N c.w0 w :=
 ⟨hN.nodup st.hs.nd, fun p hp =>
  (st.wr p (hN.mem p hp)).elim (fun h=>h) (fun h=>by rw[hM]at h;cases h),fun p hp=>st.hs.blk p (hN.mem p hp)⟩
theorem St.newM {c:Cx} {F:ak} {H N:aj} {a:Act} {w:World} (st:St c F H a w) (hN:HSub N H) (hM:∀ p∈N,p.1∉c.M):New N c.w0 w :=
 ⟨hN.nodup st.hs.nd, fun p hp =>
  (st.wr p (hN.mem p hp)).elim (fun h=>h) (fun h=>(hM p hp h).elim),fun p hp=>st.hs.blk p (hN.mem p hp)⟩

section
variable {c:Cx} {Q:Exit→Act→World→Prop} {m:Mode} {F:ak} {H:aj} {r:List bT} {g:Option (Option Tmp × Bool)} {ns:Bool} {d:Tmp} {ty t t':TypeId} {x y:Operand}

theorem Xy {e:TypeId} {N:aj} {sz n:Nat} {v:Value} {cs:List Value} [dh c.P t e] (hd:Qw c.n (some d)=true) (hg:Qi F g=some true) (hx:ev F x=some v) (hv:Rd c N sz v n cs)
  (h:JO c Q m r ((d,.int .i64 n)::F) H):JO c Q m (⟨some d,.call ⟨.builtin .len,#[x],#[t]⟩,ty,g,.bg,ns⟩::r) F H:=by
 obtain⟨_,A,cap,rfl,_⟩:=hv
 exact ZC hd hg hx h

theorem Qe6 {e:TypeId} {N:aj} {sz n j:Nat} {v:Value} {cs:List Value} {k:IntKind} [dh c.P t e] [dS c.P e sz] (hd:Qw c.n (some d)=true) (hg:Qi F g=some true) (hx:ev F x=some v) (hy:ev F y=some (.int k j)) (hv:Rd c N sz v n cs) (hj:j<n)
  (h:JO c Q m r ((d,.pointer (some (dK v (j*sz))))::F) H):JO c Q m (⟨some d,.indexAddr t x y,ty,g,.bg,ns⟩::r) F H:=by
 obtain⟨_,A,cap,rfl,_,hv⟩:=hv
 obtain⟨⟨b,o,rfl⟩,_⟩:=hv oq
 exact Zh hd hg hx (fun _=>rfl) hy hj h
theorem X5 {e:TypeId} {N:aj} {n j:Nat} {v:Value} {cs:List Value} {k:IntKind} [dh c.P t e] [dS c.P e 1] (hd:Qw c.n (some d)=true) (hg:Qi F g=some true) (hx:ev F x=some v) (hy:ev F y=some (.int k j)) (hv:Rd c N 1 v n cs) (hj:j<n)
  (h:JO c Q m r ((d,.pointer (some (dK v j)))::F) H):JO c Q m (⟨some d,.indexAddr t x y,ty,g,.bg,ns⟩::r) F H :=
 Qe6 hd hg hx hy hv hj (by rw[Nat.mul_one];exact h)

theorem Q1q {N:aj} {sz n i:Nat} {v u:Value} {cs:List Value} [T1 c.P t] (hd:Qw c.n (some d)=true) (hg:Qi F g=some true) (hx:ev F x=some (.pointer (some (dK v i)))) (hl:m.live=true) (hv:Rd c N sz v n cs) (hN:HSub N (m.src H)) (hu:cs[i]?=some u)
  (h:JO c Q m r ((d,u)::F) H):JO c Q m (⟨some d,.load t x,ty,g,.ld,ns⟩::r) F H:=by
 refine r_ld hd hg hl (fun a w fr hs=>?_) h
 have hi:=(List.getElem?_eq_some_iff.1 hu).1
 obtain⟨hlen,A,cap,rfl,_,hv⟩:=hv
 have h0:0<n:=by
  rcases Nat.eq_zero_or_pos n with h|h
  ·subst h;simp at hlen;simp[hlen]at hi
  ·exact h
 have:=(hv h0).2 w (hs.part hN) i u hu
 simp only[execOp,fr.ev hx,Sem.run_bind,Q3f this,Result.andThen_ok,Sem.run_pure]

theorem Qnv {N:aj} {sz n i k:Nat} {v:Value} {us:Array Value} {cs:List Value} [TN c.P t k] (hd:Qw c.n (some d)=true) (hg:Qi F g=some true) (hx:ev F x=some (.pointer (some (dK v i)))) (hl:m.live=true) (hv:Rd c N sz v n cs) (hN:HSub N (m.src H)) (h0:0<n)
  (hk:us.size=k) (hu:∀ j,j<k→cs[i+j]?=us[j]?) (h:JO c Q m r ((d,.agg us)::F) H):JO c Q m (⟨some d,.load t x,ty,g,.ld,ns⟩::r) F H:=by
 refine r_ld hd hg hl (fun a w fr hs=>?_) h
 obtain⟨hlen,A,cap,rfl,_,hv⟩:=hv
 obtain⟨⟨b,o,rfl⟩,hv⟩:=hv h0
 have:=Q0s (P:=c.P) (t:=t) (n:=k) (w:=w) (b:=b) (o:=o+i) (vs:=us) hk (fun j hj=>by
  have hj':j<us.size:=by omega
  have h1:=hu j hj
  rw[Array.getElem?_eq_getElem hj']at h1 ⊢
  have:=hv w (hs.part hN) (i+j) _ h1
  simpa [Nat.add_assoc] using this)
 simp only[execOp,fr.ev hx,Wf,Sem.run_bind,this,Result.andThen_ok,Sem.run_pure]

theorem Qhk {e:TypeId} {N:aj} {sz n l h':Nat} {v:Value} {cs:List Value} {lo hi:Option Operand} {vl vh:Option Value} [dh c.P t e] [dS c.P e sz] (hd:Qw c.n (some d)=true) (hg:Qi F g=some true)
  (hx:ev F x=some v) (hv:Rd c N sz v n cs)
  (hlo:(lo.bind (ev F))=vl) (hlo':lo.isSome=vl.isSome) (hl:vl=some (.int .i64 l)∨(vl=none∧l=0)) (hhi:(hi.bind (ev F))=vh) (hhi':hi.isSome=vh.isSome) (hh:vh=some (.int .i64 h')∨(vh=none∧h'=n))
  (hlh:l≤h') (hhl:h'≤n)
  (h:∀ v',Rd c N sz v' (h'-l) ((cs.drop (l*sz)).take ((h'-l)*sz))→(∀ i,l<h'→dK v' i=dK v (l*sz+i))→JO c Q m r ((d,v')::F) H):JO c Q m (⟨some d,.slice t x lo hi none,ty,g,.bg,ns⟩::r) F H:=by
 obtain⟨hlen,A,cap,rfl,hnc,hv⟩:=hv
 by_cases hn0:0<n
 ·obtain⟨⟨b,o,rfl⟩,hv⟩:=hv hn0
  refine Y9 hd hg hx (fun _=>rfl) hlo hlo' hl hhi hhi' hh hlh hhl hnc fun A' hA'=>h _ ⟨?_,A',_,rfl,by omega,fun h0=>?_⟩ (fun i hi=>?_)
  ·rw[List.length_take,List.length_drop,hlen,Nat.sub_mul]
   have h1:=V1 sz hhl
   have h2:=V1 sz hlh
   omega
  ·have hA:=hA' oq
   subst hA
   refine⟨⟨_,_,rfl⟩,fun w hw j u hu=>?_⟩
   rw[List.getElem?_take]at hu
   split at hu
   ·rw[List.getElem?_drop]at hu
    have:=hv w hw _ u hu
    simpa [Nat.add_assoc] using this
   ·cases hu
  ·have hA:=hA' oq
   subst hA
   simp[Nat.add_assoc]
 ·have:n=0:=by omega
  subst this
  refine Y9 (b:=0) (o:=0) hd hg hx (fun h=>by omega) hlo hlo' hl hhi hhi' hh hlh hhl hnc fun A' hA'=>h _ ⟨?_,A',_,rfl,by omega,fun h0=>by omega⟩ (fun i hi=>by omega)
  have hl0:h'-l=0:=by omega
  rw[List.length_take,hl0];simp

theorem aH.set {e:TypeId} {N:aj} {sz n:Nat} {v:Value} {cs:List Value} (h:aH e sz N v n cs) {i:Nat} (hi:i<n*sz) :
  ∃ b cap cur,v=.slice (some ⟨b,0,none⟩) n cap∧N=[(b,.cells cur e (0,0))]∧i<cur.size∧(∀ u,aH e sz [(b,.cells (cur.setIfInBounds i u) e (0,0))] v n (cs.set i u)):=by
 obtain⟨hl,⟨rfl,rfl,rfl⟩|⟨b,cap,cur,rfl,rfl,h2,h3,h4,h5⟩⟩:=h
 ·omega
 ·have hle:=V1 sz h2
  refine⟨b,cap,cur,rfl,rfl,by omega,fun u=>⟨by simpa using hl,.inr ⟨b,cap,_,rfl,rfl,h2,h3,by simpa using h4,?_⟩⟩⟩
  rw[Array.toList_setIfInBounds, ← h5,List.take_set]

theorem Q1o {e:TypeId} {N A B:aj} {sz n i:Nat} {v u:Value} {cs:List Value} [T1 c.P t] (hO:aH e sz N v n cs) (hH:H=A++(N++B)) (hg:Qi F g=some true) (hm:m.aO ns r) (hx:ev F x=some (.pointer (some (dK v i)))) (hy:ev F y=some u)
  (hc:u.cells.toList=[u]) (hv:u.oneCell'=true) (hi:i<n*sz) (h:∀ N',aH e sz N' v n (cs.set i u)→JO c Q m.spent r F (A++(N'++B))) :
  JO c Q m (⟨none,.store t x y,ty,g,.seq,ns⟩::r) F H:=by
 obtain⟨b,cap,cur,rfl,rfl,h1,h2⟩:=hO.set hi
 subst hH
 simp only[Wf,Vq]at hx
 refine Qe3 A.length (b:=b) (o:=i) (cs:=cur) (T:=e) hg hm hx hy aA hc hv h1 ?_
 have:=h _ (h2 u)
 simpa using this

theorem QX (A N B:aj):((A++B)++N).Perm (A++(N++B)):=by
 rw[Vb]
 exact List.perm_append_comm.append_left A

theorem Qci {A B:aj} {f:FuncId} {vs:Array Value} {op:Op} {dd:Option Tmp} {R:World→Value→World→Prop} {a:Act} {w:World} (hH:H=A++B) (hs:match m with | .text=>True | .draw Hs l=>l=true→aG Hs w) (hm:m.dR ns r) (hd:Qw c.n dd=true) (st:St c F H a w)
  (hrun:(execOp a.eval ⟨dd,op,ty, "",#[],none⟩).run c.P w=.ok (.enter f vs) w) (hc:Calls c.P f vs w (aQ fun v w'=>Kp [] w w'∧R w v w'))
  (h:∀ v w',Kp [] w w'→R w v w'→∃ N,New N w w'∧JO c Q m r (dN F dd v) (A++(N++B))) :
  Oper.wp c.P ⟨dd,op,ty, "",#[],none⟩ a w (fun a' w' =>
     Step c H w w'∧∃ F' H' m',St c F' H' a' w'∧(∀ k∈keys H',k∈keys H∨k∈c.M∨w.heap.size≤k)∧m.after m' ns (Zq r) w'∧JL c (Q .normal) m' r F' H') (Only fun _ _=>False):=by
 subst hH
 unfold Oper.wp
 rw[hrun]
 refine Calls.mono hc fun e w' he=>?_
 cases e with
 | returned v =>
  obtain⟨hk,hR⟩:=he
  obtain⟨N,hn,hj⟩:=h v w' hk hR
  refine⟨⟨hk.size,fun k hkk _ _=>hk.block k hkk aA⟩,_,_,m,((st.new hk hn).perm (QX A N B)).put v hd,fun k hkk=>?_,ZY hk hs hm,hj.h⟩
  obtain⟨p,hp,rfl⟩:=List.mem_map.1 hkk
  rcases List.mem_append.1 hp with h|h
  ·exact .inl (List.mem_map.2 ⟨p,List.mem_append.2 (.inl h),rfl⟩)
  ·rcases List.mem_append.1 h with h|h
   ·exact .inr (.inr (hn.ge p h))
   ·exact .inl (List.mem_map.2 ⟨p,List.mem_append.2 (.inr h),rfl⟩)
 | panicked ch=>exact he.elim
 | outgrown=>exact he.elim

theorem ZU {zc:Array Value} {places:Array (Nat × Nat)} {parts:Array (Nat × Operand)} {l:List (Nat × Value)} {vs:List Value} [TSt c.P t zc places] (hd:Qw c.n (some d)=true:=by exact rfl) (hg:Qi F g=some true:=by exact rfl)
  (hp:Xs F parts.toList=some l:=by exact rfl) (hv:(if l.isEmpty then zc.toList else l.map (·.2))=vs:=by exact rfl) (hc:Instr.fill (places[·]?) zc l=some vs.toArray:=by exact rfl) (h:JO c Q m r ((d,(.agg vs.toArray))::F) H):JO c Q m (⟨some d,.build t parts,ty,g,.bg,ns⟩::r) F H :=
 Zw hd hg hp hc h

theorem Qt {A B:aj} {f:FuncId} {args:Array Operand} {ats:Array TypeId} {vs:List Value} {R:World→Value→World→Prop} [TF c.P f] (hH:H=A++B) (hm:m.dR ns r) (hd:Qw c.n (some d)=true) (hg:Qi F g=some true) (ha:Zy F args.toList=some vs)
  (hc:∀ w,Kp c.M c.w0 w→aG H w→Calls c.P f vs.toArray w (aQ fun v w'=>Kp [] w w'∧R w v w'))
  (h:∀ w v w',Kp c.M c.w0 w→aG H w→Kp [] w w'→R w v w'→∃ N,New N w w'∧JO c Q m r ((d,v)::F) (A++(N++B))) :
  JO c Q m (⟨some d,.call ⟨.value (.func f),args,ats⟩,ty,g,.seq,ns⟩::r) F H :=
 ⟨⟨hd,.inr ⟨hg,fun a w st hs=>Qci hH hs hm hd st (XC st.fr ha) (hc w st.kp st.hs) (fun v w'=>h w v w' st.kp st.hs)⟩⟩⟩

theorem Q9 {f:FuncId} {args:Array Operand} {ats:Array TypeId} {vs:List Value} {R:World→Value→World→Prop} [TF c.P f] (hm:m.dR ns r) (hd:Qw c.n (some d)=true) (hg:Qi F g=some true) (ha:Zy F args.toList=some vs)
  (hc:∀ w,Kp c.M c.w0 w→aG H w→Calls c.P f vs.toArray w (aQ fun v w'=>Kp [] w w'∧R w v w'))
  (h:∀ w v w',Kp c.M c.w0 w→aG H w→Kp [] w w'→R w v w'→JO c Q m r ((d,v)::F) H) :
  JO c Q m (⟨some d,.call ⟨.value (.func f),args,ats⟩,ty,g,.seq,ns⟩::r) F H :=
 Qt (A:=[]) (B:=H) rfl hm hd hg ha hc fun w v w' h1 h2 h3 h4=>⟨[],New.nil _ _,h w v w' h1 h2 h3 h4⟩

theorem Qhp {f:FuncId} {args:Array Operand} {ats:Array TypeId} {vs:List Value} {first cap:Array Value} {R:World→Value→World→Prop} [TF c.P f] (hm:m.dR ns r) (hd:Qw c.n (some d)=true) (hg:Qi F g=some true)
  (hx:ev F x=some (.func (.func f) first cap)) (ha:Zy F args.toList=some vs)
  (hc:∀ w,Kp c.M c.w0 w→aG H w→Calls c.P f (first++vs.toArray++cap) w (aQ fun v w'=>Kp [] w w'∧R w v w'))
  (h:∀ w v w',Kp c.M c.w0 w→aG H w→Kp [] w w'→R w v w'→JO c Q m r ((d,v)::F) H) :
  JO c Q m (⟨some d,.call ⟨.value x,args,ats⟩,ty,g,.seq,ns⟩::r) F H:=by
 refine Ql3 hm hd hg hx ha hc fun w v w' h1 h2 h3 h4=>⟨[],New.nil _ _,?_⟩
 rw[Vh]
 exact h w v w' h1 h2 h3 h4

theorem XN {A N B:aj} {f:FuncId} {args:Array Operand} {ats:Array TypeId} {vs:List Value} {R:World→Value→World→Prop} {dd:Option Tmp} [TF c.P f] (hH:H=A++(N++B)) (hm:m.aO ns r) (hd:Qw c.n dd=true) (hg:Qi F g=some true) (ha:Zy F args.toList=some vs)
  (hc:∀ w,Kp c.M c.w0 w→aG H w→Calls c.P f vs.toArray w (aQ fun v w'=>Kp (keys N) w w'∧R w v w'))
  (h:∀ w v w',Kp c.M c.w0 w→aG H w→Kp (keys N) w w'→R w v w'→∃ N',keys N'=keys N∧(∀ p∈N',w'.heap[p.1]?=some p.2)∧JO c Q m.spent r (dN F dd v) (A++(N'++B))) :
  JO c Q m (⟨dd,.call ⟨.value (.func f),args,ats⟩,ty,g,.seq,ns⟩::r) F H:=by
 subst hH
 refine⟨⟨hd,.inr ⟨hg,fun a w st hs=>?_⟩⟩⟩
 unfold Oper.wp bT.oper
 rw[XC st.fr ha]
 refine Calls.mono (hc w st.kp st.hs) fun e w' he=>?_
 cases e with
 | panicked ch=>exact he.elim
 | outgrown=>exact he.elim
 | returned v =>
  obtain⟨hk,hR⟩:=he
  obtain⟨N',hkeys,hb,hj⟩:=h w v w' st.kp st.hs hk hR
  have hp:(A++(N++B)).Perm ((A++B)++N):=(QX A N B).symm
  have hnd:=(st.perm hp).hs.nd
  rw[Vj,List.nodup_append]at hnd
  obtain⟨st',hstep,hkk⟩:=ZV (N':=N') st hp (by have:=hnd.2.1;unfold keys at hkeys;rw[hkeys];exact this) hb (fun k hk'=>.inl (hkeys▸hk')) (fun k h1 h2=>hk.block k h1 h2) hk.size hk.os hk.tape hk.output
  refine⟨hstep,_,_,m.spent,(st'.perm (QX A N' B)).put v hd,fun k hk'=>hkk k ?_,Za hm,hj.h⟩
  obtain⟨q,hq,rfl⟩:=List.mem_map.1 hk'
  exact List.mem_map.2 ⟨q,(QX A N' B).mem_iff.2 hq,rfl⟩

theorem X6 {e:TypeId} {sz bytes:Nat} {zc:Array Value} {v v2:Value} {n mm:Nat} {xs news:List Value} {A B N N2:aj} [dh c.P t e] [TE c.P e sz bytes zc] (hzs:zc.size=sz)
  (hN:aH e sz N v n xs) (h2:Rd c N2 sz v2 mm news) (eH:HSub N2 H) (hH:H=A++(N++B)) (hm:m.aO ns r) (hd:Qw c.n (some d)=true) (hg:Qi F g=some true) (hx:ev F x=some v) (hy:ev F y=some v2)
  (h1:∀ u∈news,u.oneCell'=true) (h63:n+mm≤maxLen) (hbytes:(n+mm)*bytes≤140737488355328)
  (h:∀ v' N',aH e sz N' v' (n+mm) (xs++news)→JO c Q m.spent r ((d,v')::F) (A++(N'++B))) :
  JO c Q m (⟨some d,.call ⟨.builtin .append,#[x,y],#[t,t]⟩,ty,g,.seq,ns⟩::r) F H:=by
 subst hH
 refine⟨⟨hd,.inr ⟨hg,fun a w st _=>?_⟩⟩⟩
 obtain⟨i,z,hi,rfl,rfl,hz,rfl⟩:=TE.info (P:=c.P) (e:=e) (sz:=sz) (bytes:=bytes) (zc:=zc)
 obtain⟨hl,A2,cc,rfl,_,hrd⟩:=h2
 have hp:(A++(N++B)).Perm ((A++B)++N):=(QX A N B).symm
 obtain⟨v',w',N',hrun,hN',hb',hk',ho',hs',e1,e2,e3⟩:=WP (P:=c.P) (w:=w) (ty:=ty) (cc:=cc) (A:=A2) (mm:=mm) (dh.und (P:=c.P) (t:=t)) hi hz hzs hN (fun p hp=>st.hs.blk p (List.mem_append.2 (.inr (List.mem_append.2 (.inl hp))))) hl
  (fun ad had j u hu => by
   subst had
   have h0:0<mm:=by
    rcases Nat.eq_zero_or_pos mm with h|h
    ·subst h;simp at hl;subst hl;cases hu
    ·exact h
   obtain⟨⟨b,o,hbo⟩,hcell⟩:=hrd h0
   cases hbo
   have:=hcell w ⟨st.kp,eH.aV st.hs⟩ j u hu
   rw[ZD]
   exact this) (fun h0=>by obtain⟨⟨b,o,rfl⟩,_⟩:=hrd h0;rfl) h1 h63 hbytes
 have hargs:(#[x,y]:Array Operand).map a.eval=#[v,.slice A2 mm cc]:=by simp[st.fr.ev hx,st.fr.ev hy]
 have hexec:(execOp a.eval ⟨some d,.call ⟨.builtin .append,#[x,y],#[t,t]⟩,ty, "",#[],none⟩).run c.P w=.ok (.value v') w':=by
  show (do let d ← resolve a.eval ⟨.builtin .append,#[x,y],#[t,t]⟩ ty;invoke d.target d.args).run c.P w=_
  simp only[resolve,Sem.run_bind,Sem.run_pure,Result.andThen_ok,invoke,builtin,hargs]
  simp[hrun]
 unfold Oper.wp bT.oper
 rw[hexec]
 obtain⟨st',hstep,hkk⟩:=ZV st hp hN'.nodup hb' hk' ho' hs' e1 e2 e3
 refine⟨hstep,(d,v')::F,A++(N'++B),m.spent,(st'.perm (QX A N' B)).put v' hd,fun k hk=>hkk k ?_,Za hm,(h v' N' hN').h⟩
 obtain⟨q,hq,rfl⟩:=List.mem_map.1 hk
 exact List.mem_map.2 ⟨q,(QX A N' B).mem_iff.2 hq,rfl⟩

theorem Qee {e:TypeId} {sz bytes:Nat} {zc:Array Value} {v v2:Value} {n mm:Nat} {xs news:List Value} {A B N N2:aj} [dh c.P t e] [TE c.P e sz bytes zc] (hzs:zc.size=sz)
  (hN:aH e sz N v n xs) (h2:Rd c N2 sz v2 mm news) {Hs:aj} (eH:HSub N2 H) (hH:H=A++(N++B)) (iV:HSub Hs (A++B)) (hd:Qw c.n (some d)=true) (hg:Qi F g=some true) (hx:ev F x=some v) (hy:ev F y=some v2)
  (h1:∀ u∈news,u.oneCell'=true) (h63:n+mm≤maxLen) (hbytes:(n+mm)*bytes≤140737488355328)
  (h:∀ v' N',aH e sz N' v' (n+mm) (xs++news)→JO c Q (.draw Hs true) r ((d,v')::F) (A++(N'++B))) :
  JO c Q (.draw Hs true) (⟨some d,.call ⟨.builtin .append,#[x,y],#[t,t]⟩,ty,g,.seq,ns⟩::r) F H:=by
 subst hH
 refine⟨⟨hd,.inr ⟨hg,fun a w st hlive=>?_⟩⟩⟩
 obtain⟨i,z,hi,rfl,rfl,hz,rfl⟩:=TE.info (P:=c.P) (e:=e) (sz:=sz) (bytes:=bytes) (zc:=zc)
 obtain⟨hl,A2,cc,rfl,_,hrd⟩:=h2
 have hp:(A++(N++B)).Perm ((A++B)++N):=(QX A N B).symm
 obtain⟨v',w',N',hrun,hN',hb',hk',ho',hs',e1,e2,e3⟩:=WP (P:=c.P) (w:=w) (ty:=ty) (cc:=cc) (A:=A2) (mm:=mm) (dh.und (P:=c.P) (t:=t)) hi hz hzs hN (fun p hp=>st.hs.blk p (List.mem_append.2 (.inr (List.mem_append.2 (.inl hp))))) hl
  (fun ad had j u hu => by
   subst had
   have h0:0<mm:=by
    rcases Nat.eq_zero_or_pos mm with h|h
    ·subst h;simp at hl;subst hl;cases hu
    ·exact h
   obtain⟨⟨b,o,hbo⟩,hcell⟩:=hrd h0
   cases hbo
   have:=hcell w ⟨st.kp,eH.aV st.hs⟩ j u hu
   rw[ZD]
   exact this) (fun h0=>by obtain⟨⟨b,o,rfl⟩,_⟩:=hrd h0;rfl) h1 h63 hbytes
 have hargs:(#[x,y]:Array Operand).map a.eval=#[v,.slice A2 mm cc]:=by simp[st.fr.ev hx,st.fr.ev hy]
 have hexec:(execOp a.eval ⟨some d,.call ⟨.builtin .append,#[x,y],#[t,t]⟩,ty, "",#[],none⟩).run c.P w=.ok (.value v') w':=by
  show (do let d ← resolve a.eval ⟨.builtin .append,#[x,y],#[t,t]⟩ ty;invoke d.target d.args).run c.P w=_
  simp only[resolve,Sem.run_bind,Sem.run_pure,Result.andThen_ok,invoke,builtin,hargs]
  simp[hrun]
 unfold Oper.wp bT.oper
 rw[hexec]
 obtain⟨st',hstep,hkk⟩:=ZV st hp hN'.nodup hb' hk' ho' hs' e1 e2 e3
 have hAB:aG (A++B) w':=⟨by have:=st'.hs.nd;rw[Vj,List.nodup_append]at this;exact this.1,fun p hp=>st'.hs.blk p (List.mem_append.2 (.inl hp))⟩
 refine⟨hstep,(d,v')::F,A++(N'++B),.draw Hs true,(st'.perm (QX A N' B)).put v' hd,fun k hk=>hkk k ?_,⟨rfl,fun _=>⟨rfl,iV.aV hAB⟩,fun _=>rfl,.inl rfl⟩,(h v' N' hN').h⟩
 obtain⟨q,hq,rfl⟩:=List.mem_map.1 hk
 exact List.mem_map.2 ⟨q,(QX A N' B).mem_iff.2 hq,rfl⟩

end
theorem cT {c:Cx} {Q:Exit→Act→World→Prop} {s t:dZ} {F:ak} {H:aj} {x:Operand} (h:JC c Q s F H) (hx:ev F x=some (.bool true):=by exact rfl):JC c Q (.cond x s t) F H:=Q5 hx h
theorem cF {c:Cx} {Q:Exit→Act→World→Prop} {s t:dZ} {F:ak} {H:aj} {x:Operand} (h:JC c Q t F H) (hx:ev F x=some (.bool false):=by exact rfl):JC c Q (.cond x s t) F H:=Q4 hx h
theorem Qj0 {N r B:aj} (h:HSub r B):HSub (N++r) (N++B):=by
 obtain⟨l,hl⟩:=h
 exact⟨l,by rw[Vb];exact hl.append_left N⟩
theorem Qb {A B:aj} (h:HSub A B:=by(repeat' first|exact HSub.nil _|exact HSub.hd|exact HSub.dJ|exact HSub.refl _|refine HSub.skip ?_|refine Qf ?_)):HSub A B:=h
theorem QE {A B:aj} (h:HSub A B:=by(first|exact HSub.refl _|(repeat' first|exact HSub.nil _|exact HSub.refl _|refine HSub.at 0 rfl ?_|refine HSub.at 1 rfl ?_|refine HSub.at 2 rfl ?_|refine HSub.at 3 rfl ?_|refine HSub.at 4 rfl ?_|refine HSub.at 5 rfl ?_|refine HSub.at 6 rfl ?_|refine HSub.at 7 rfl ?_))):HSub A B:=h
theorem QF {A B:aj} (h:HSub A B:=by(repeat' first|exact HSub.refl _|exact HSub.nil _|refine HSub.at 0 rfl ?_|refine HSub.at 1 rfl ?_|refine HSub.at 2 rfl ?_|refine HSub.at 3 rfl ?_|refine HSub.at 4 rfl ?_|refine HSub.at 5 rfl ?_|refine HSub.at 6 rfl ?_|refine HSub.at 7 rfl ?_|refine HSub.at 8 rfl ?_|refine HSub.at 9 rfl ?_|refine HSub.at 10 rfl ?_|refine HSub.at 11 rfl ?_|refine HSub.at 12 rfl ?_|refine HSub.at 13 rfl ?_|refine HSub.at 14 rfl ?_|refine HSub.at 15 rfl ?_|refine HSub.at 16 rfl ?_|refine HSub.at 17 rfl ?_|refine HSub.at 18 rfl ?_|refine HSub.at 19 rfl ?_|refine Qj0 ?_|refine HSub.skip ?_|refine Qf ?_)):HSub A B:=h
theorem aC {p:Prop} (h:p:=by repeat first|exact trivial|refine⟨rfl,?_⟩):p:=h
theorem au {p:Prop} (h:p:=by first|trivial|exact⟨rfl,rfl⟩):p:=h
theorem aF {p:Prop} (h:p:=by first|rfl|exact⟨rfl,rfl⟩):p:=h

end Go.Proofs.YtbofgpenopcfaaaGreatDoor

