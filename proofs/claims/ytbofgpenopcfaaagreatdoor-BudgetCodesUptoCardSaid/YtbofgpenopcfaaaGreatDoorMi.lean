import Derived.Test.YtbofgpenopcfaaaGreatDoorMh
import Derived.Test.YtbofgpenopcfaaaGreatDoorMg
import Derived.Test.YtbofgpenopcfaaaGreatDoorMe
import Derived.Shelf.Spec.SlicesGrow
set_option maxHeartbeats 16000000
namespace Go.Proofs.YtbofgpenopcfaaaGreatDoor
open Go Go.RowKit
set_option linter.unusedSimpArgs false
set_option linter.unusedVariables false
set_option linter.unusedSectionVars false

theorem Qdo {B:Nat}:∀ {n:Nat} {f:Nat→Int},(∀ i,i<n→(f i).natAbs≤B)→(eF n f).natAbs≤n*B
 | 0,f,_=>by simp[eF]
 | n+1,f,h=>by
  rw[eF]
  have h1:=Qdo (n:=n) (f:=f) (fun i hi=>h i oq)
  have h2:=h n oq
  have h3:=Int.natAbs_add_le (eF n f) (f n)
  rw[Vl,Nat.one_mul]
  omega
theorem Qjw {K:Nat}:∀ {n:Nat} {A:Mi},n≤256→(∀ i j,(A i j).natAbs<256 ^ K)→(dn n A).natAbs≤256 ^ (n*(K+1))
 | 0,A,_,_=>by simp[dn]
 | n + 1, A, hn, h => by
  rw[dn]
  have h1:=Qdo (n:=n+1) (f:=fun i=>sg i*A i 0*dn n (fun a b=>A (sk i a) (b+1))) (B:=256 ^ K*256 ^ (n*(K+1))) (fun i hi=>by
   have h2:=Qjw (n:=n) (A:=fun a b=>A (sk i a) (b+1)) oq (fun a b=>h _ _)
   have h3:(sg i*A i 0).natAbs≤256 ^ K:=by
    have:=h i 0
    unfold sg
    split
    ·rw[Int.one_mul];omega
    ·rw[show (-1:Int)*A i 0 = -(A i 0) by omega,Int.natAbs_neg];omega
   rw[Int.natAbs_mul]
   exact Vn h3 h2)
  refine V0 h1 ?_
  have e:256 ^ ((n+1)*(K+1))=256*(256 ^ K*256 ^ (n*(K+1))):=by
   rw[← Nat.pow_add, ← Nat.pow_succ']
   congr 1
   rw[Vl];omega
  rw[e]
  exact V1 _ hn
theorem Qps {K k n:Nat} {A:Mi} {i j:Nat} (hk:k<n) (hn:n≤200) (h:∀ i j,(A i j).natAbs<256 ^ K):(bm k A i j).natAbs<256 ^ (n*(K+1)+1):=by
 have h1:=Qjw (K:=K) (n:=k+1) (A:=bd k A i j) oq (fun a b=>h _ _)
 unfold bm
 refine V5 h1 (Nat.pow_lt_pow_right dq ?_)
 have:=V1 (K+1) (show k+1≤n from hk)
 omega


structure DetI (n K:Nat) (A0:Mi) (k:Nat) (last:Int) (ts:List TR):Prop where
 ex:∃ A,Bar n A k (tM ts) last∧dn n A=dn n A0∧∀ i j,(A i j).natAbs<256 ^ K
 bd:∀ i j,i<n→j<n→(tM ts i j).natAbs<256 ^ (n*(K+1)+1)

theorem Bar.lt {n k K:Nat} {A M:Mi} {last:Int} (h:Bar n A k M last) (hn:n≤200) (hA:∀ i j,(A i j).natAbs<256 ^ K) {i j:Nat} (hi:k≤i) (hin:i<n) (hj:k≤j) (hjn:j<n):(M i j).natAbs<256 ^ (n*(K+1)+1):=by
 rw[h.eq i j hi hin hj hjn]
 exact Qps oq hn hA
set_option linter.unusedSimpArgs false
set_option linter.unusedVariables false
set_option linter.unusedSectionVars false

set_option linter.unusedSimpArgs false
set_option linter.unusedVariables false
set_option linter.unusedSectionVars false

section
variable {c:Cx} {Q:Exit→Act→World→Prop} {m:Mode} {F:ak} {H:aj} {r:List bT} {g:Option (Option Tmp × Bool)} {ns:Bool} {ty:TypeId} {N:aj} {v:Value} {cc:Nat} {ts:List TR}
end

theorem Qez {A B:aj} (h:A.Perm B):(keys A).Perm (keys B):=h.map _
theorem cO.keys_out {N N':aj} {v:Value} {c c':Nat} {ts ts':List TR} (h:cO N v c ts) (h':cO N' v c' ts') (hl:ts.length=ts'.length):keys N=keys N':=by
 have h1:=h'.outer
 rw[← hl]at h1
 exact ZA h.outer h1

structure RedI (n cc k:Nat) (M0:Mi) (X E:Nat) (i:Nat) (ts:List TR):Prop where
 red:Red n M0 (tM ts)
 top:∀ a,a<k→∀ b,tM ts a b=M0 a b
 zer:∀ a,k<a→a<i→tM ts a k=0
 col:∀ a,k≤a→a<n→(tM ts a k).natAbs≤X
 all:∀ a b,k≤a→a<n→(tM ts a b).natAbs≤E
 zs:∀ b,(∀ a,k≤a→a<n→M0 a b=0)→∀ a,k≤a→a<n→tM ts a b=0


structure BdT (K:Nat) (t:Tn):Prop where
 a:t.a.natAbs<256 ^ K
 b:t.b.natAbs<256 ^ K
 c:t.c.natAbs<256 ^ K
 d:t.d.natAbs<256 ^ K

section
variable {c:Cx} {Q:Exit→Act→World→Prop} {m:Mode} {F:ak} {H:aj} {r:List bT} {g:Option (Option Tmp × Bool)} {ns:Bool} {d:Tmp} {ty t:TypeId} {x:Operand}
theorem Qhq {zc:Array Value} {places:Array (Nat × Nat)} [TSt c.P t zc places] (hd:Qw c.n (some d)=true:=by exact rfl) (hg:Qi F g=some true:=by exact rfl)
  (h:JO c Q m r ((d,(.agg zc))::F) H):JO c Q m (⟨some d,.build t #[],ty,g,.bg,ns⟩::r) F H :=
 Zw (l:=[]) (cs:=zc) hd hg rfl rfl h
end

theorem bd2 {x:Int} {K:Nat} (h:x.natAbs<256 ^ K):x.natAbs<256 ^ (K+K):=Z2 h oq

theorem Yu (A B:aj):keys (A++B)=keys A++keys B:=by simp[keys]
theorem Q95:∀ (ts:List TR),keys (tH ts)=(ts.map fun t=>keys t.1).flatten
 | []=>rfl
 | t::ts=>by
  show keys (t.1++tH ts)=_
  rw[Yu,Q95 ts];rfl
theorem Qdc {N N':aj} {v:Value} {cc:Nat} {ts ts':List TR} (h:cO N v cc ts) (h':cO N' v cc ts') (hl:ts'.length=ts.length) (hV:∀ a,tv ts' a=tv ts a):keys (tH ts')=keys (tH ts):=by
 rw[Q95,Q95]
 congr 1
 refine List.ext_getElem (by simpa using hl) fun i h1 h2=>?_
 have hi:i<ts.length:=by simpa using h2
 have a1:=h.row hi
 have a2:=h'.row (i:=i) oq
 rw[hV i]at a2
 have e1:ts.getD i dT=ts[i]:=by rw[List.getD,List.getElem?_eq_getElem hi];rfl
 have e2:ts'.getD i dT=ts'[i]:=by rw[List.getD,List.getElem?_eq_getElem oq];rfl
 rw[e1]at a1
 rw[e2]at a2
 simp only[List.getElem_map]
 exact ZA a2 a1
def Qp1 (N:aj) (ts:List TR) (v:Value) (cc:Nat) (g:Nat→Nat→Int) (w w':World):Prop :=
 Kp (keys (N++tH ts)) w w'∧∃ ts',keys (N++tH ts')=keys (N++tH ts)∧InW (N++tH ts') w'∧cO N v cc ts'∧ts'.length=ts.length∧(∀ a,tv ts' a=tv ts a)∧∀ a b,tM ts' a b=g a b


section
variable {c:Cx} {Q:Exit→Act→World→Prop} {m:Mode} {F:ak} {H:aj} {r:List bT} {g:Option (Option Tmp × Bool)} {ns:Bool} {ty:TypeId} {N:aj} {v:Value} {cc:Nat} {ts:List TR}
theorem Q0z {A B:aj} {f:FuncId} {args:Array Operand} {ats:Array TypeId} {vs:List Value} {dd:Option Tmp} {gg:Nat→Nat→Int} [TF c.P f] (hH:H=A++(N++(tH ts++B))) (hm:m.aO ns r) (hd:Qw c.n dd=true) (hg:Qi F g=some true) (ha:Zy F args.toList=some vs)
  (hc:∀ w,aG (N++tH ts) w→Calls c.P f vs.toArray w (aQ fun _ w'=>Qp1 N ts v cc gg w w'))
  (h:∀ u ts',cO N v cc ts'→ts'.length=ts.length→(∀ a,tv ts' a=tv ts a)→(∀ a b,tM ts' a b=gg a b)→JO c Q m.spent r (dN F dd u) (A++(N++(tH ts'++B)))) :
  JO c Q m (⟨dd,.call ⟨.value (.func f),args,ats⟩,ty,g,.seq,ns⟩::r) F H:=by
 refine XN (A:=A) (N:=N++tH ts) (B:=B) (by rw[hH,Vb]) hm hd hg ha (fun w _ hs=>hc w (HSub.aV (by rw[hH, ← Vb N];exact Qf HSub.dJ) hs)) (fun w u w' _ _ _ hR=>?_)
 obtain⟨ts',hk,hin,hT',hl,hV,hM⟩:=hR
 refine⟨N++tH ts',hk,hin,?_⟩
 have h1:=h u ts' hT' hl hV hM
 rw[Vb]
 exact h1
end

structure WV where
 u:Value
 ui:Value
 d:Value
 v:Value
 vi:Value
 Nu:aj
 dM:aj
 Nd:aj
 Nv:aj
 dV:aj
structure WT where
 u:List TR
 ui:List TR
 d:List TR
 v:List TR
 vi:List TR
def WV.cells (W:WV) (m n:Nat):Array Value:=#[W.u,W.ui,W.d,W.v,W.vi,nv m,nv n]
def wkH (b:Nat) (W:WV) (m n:Nat) (T:WT):aj:=(b,.cells (W.cells m n) 139)::(W.Nu++(tH T.u++(W.dM++(tH T.ui++(W.Nd++(tH T.d++(W.Nv++(tH T.v++(W.dV++(tH T.vi++[]))))))))))
def tL (ts:List TR):List (List Int):=ts.map (·.2.2)
theorem Qn9 (ts:List TR) (a b:Nat):tM ts a b=gE (tL ts) a b:=by
 unfold tM gE tL tr'
 have e:(ts.map (·.2.2)).getD a []=(ts.getD a dT).2.2:=by
  simp only[List.getD,List.getElem?_map]
  cases h:ts[a]?<;>simp[dT]
 rw[e]
structure dP (N:aj) (v:Value) (r c:Nat) (ts:List TR) (g:List (List Int)):Prop where
 T:cO N v c ts
 len:ts.length=r
 eq:tL ts=g
theorem dP.rc {N:aj} {v:Value} {r c:Nat} {ts:List TR} {g:List (List Int)} (h:dP N v r c ts g):Rec r c g :=
 ⟨by rw [← h.eq]; unfold tL; rw [List.length_map, h.len], fun x hx => by
  rw[← h.eq]at hx
  unfold tL at hx
  obtain⟨t,ht,rfl⟩:=List.mem_map.1 hx
  exact(h.T.rows t ht).len⟩
theorem dP.at {N:aj} {v:Value} {r c:Nat} {ts:List TR} {g:List (List Int)} (h:dP N v r c ts g) (a b:Nat):tM ts a b=gE g a b:=by rw[Qn9,h.eq]
theorem dP.of {N:aj} {v:Value} {r c:Nat} {ts ts':List TR} {g g':List (List Int)} (h:dP N v r c ts g) (hT:cO N v c ts') (hl:ts'.length=ts.length) (hg:Rec r c g') (e:∀ a b,a<r→b<c→tM ts' a b=gE g' a b):dP N v r c ts' g':=by
 have h0:dP N v r c ts' (tL ts'):=⟨hT,by rw[hl,h.len],rfl⟩
 exact⟨hT,h0.len,h0.rc.ext hg fun a b ha hb=>by rw[← Qn9];exact e a b ha hb⟩
structure IsWk (W:WV) (m n:Nat) (T:WT) (S:Sm):Prop where
 u:dP W.Nu W.u m m T.u S.u
 ui:dP W.dM W.ui m m T.ui S.ui
 d:dP W.Nd W.d m n T.d S.d
 v:dP W.Nv W.v n n T.v S.v
 vi:dP W.dV W.vi n n T.vi S.vi
structure iF (T T':WT):Prop where
 u:∀ a,tv T'.u a=tv T.u a
 ui:∀ a,tv T'.ui a=tv T.ui a
 d:∀ a,tv T'.d a=tv T.d a
 v:∀ a,tv T'.v a=tv T.v a
 vi:∀ a,tv T'.vi a=tv T.vi a
theorem iF.refl (T:WT):iF T T:=⟨fun _=>rfl,fun _=>rfl,fun _=>rfl,fun _=>rfl,fun _=>rfl⟩
theorem dP.keys {N:aj} {v:Value} {r c:Nat} {ts ts':List TR} {g g':List (List Int)} (h:dP N v r c ts g) (h':dP N v r c ts' g') (hV:∀ a,tv ts' a=tv ts a):Go.Proofs.YtbofgpenopcfaaaGreatDoor.keys (tH ts')=Go.Proofs.YtbofgpenopcfaaaGreatDoor.keys (tH ts):=Qdc h.T h'.T (by rw[h.len,h'.len]) hV
def WkR (b:Nat) (W:WV) (m n:Nat) (T:WT) (S':Sm) (w w':World):Prop :=
 Kp (keys (wkH b W m n T)) w w'∧∃ T',keys (wkH b W m n T')=keys (wkH b W m n T)∧InW (wkH b W m n T') w'∧IsWk W m n T' S'∧iF T T'

theorem BdT.flip {K:Nat} {t:Tn} (h:BdT K t):BdT K t.flip:=⟨h.d,by show (-t.c).natAbs<_;rw[Int.natAbs_neg];exact h.c,by show (-t.b).natAbs<_;rw[Int.natAbs_neg];exact h.b,h.a⟩
theorem dP.rows {N:aj} {v:Value} {r c i k:Nat} {ts ts':List TR} {g:List (List Int)} {t:Tn} (h:dP N v r c ts g) (hi:i<r) (hk:k<r) (hT:cO N v c ts') (hl:ts'.length=ts.length)
  (e:∀ a b,tM ts' a b=if a=k∧b<c then t.q (tM ts i b) (tM ts k b) else if a=i∧b<c then t.p (tM ts i b) (tM ts k b) else tM ts a b):dP N v r c ts' (Q08 i k t g) :=
 h.of hT hl (h.rc.rows hi hk) fun a b ha hb=>by
  rw[e,Q0g h.rc hi hk hb,h.at,h.at,h.at]
  have e1:(a=k∧b<c)↔a=k:=by omega
  have e2:(a=i∧b<c)↔a=i:=by omega
  simp only[e1,e2]
theorem dP.cols {N:aj} {v:Value} {r c i k:Nat} {ts ts':List TR} {g:List (List Int)} {t:Tn} (h:dP N v r c ts g) (hi:i<c) (hk:k<c) (hT:cO N v c ts') (hl:ts'.length=ts.length)
  (e:∀ a b,tM ts' a b=if a<ts.length∧b=k then t.q (tM ts a i) (tM ts a k) else if a<ts.length∧b=i then t.p (tM ts a i) (tM ts a k) else tM ts a b):dP N v r c ts' (XW i k t g) :=
 h.of hT hl h.rc.cols fun a b ha hb=>by
  rw[e,Q0h h.rc hi hk ha,h.at,h.at,h.at,h.len]
  have e1:(a<r∧b=k)↔b=k:=by omega
  have e2:(a<r∧b=i)↔b=i:=by omega
  simp only[e1,e2]


section
variable {c:Cx} {Q:Exit→Act→World→Prop} {F:ak} {H:aj} {r:List bT} {g:Option (Option Tmp × Bool)} {ns:Bool} {ty:TypeId} {x:Operand}
end

theorem XR (a b:Int):(a / b).natAbs≤a.natAbs:=Int.natAbs_ediv_le_natAbs a b

section
variable {P:Program} {ops:Array Oper}

theorem Qcy {j k:Nat} (h:waits ops j k=true):∃ o e,ops[j]?=some o∧e∈o.after∧Region.binds .any e=true∧e.on=k:=by
 unfold waits at h
 split at h
 ·rename_i o ho
  obtain⟨e,he,hb⟩:=Array.any_eq_true'.1 h
  simp only[Bool.and_eq_true,beq_iff_eq]at hb
  exact⟨o,e,ho,he,hb.1,hb.2⟩
 ·cases h
theorem Q50 {j k:Nat} {listed:Array Bool} (hj:j∈Region.ready .any ops listed) (h:waits ops j k=true):listed.getD k false=true:=by
 obtain⟨_,oj,hoj,hall⟩:=mem_ready.1 hj
 obtain⟨o,e,ho,he,hb,rfl⟩:=Qcy h
 rw[hoj]at ho
 cases ho
 exact hall e he hb

theorem Q57 {i k j:Nat} (hki:waits ops k i=true) (hjk:waits ops j k=true):∀ (f:Nat) (listed:Array Bool) (l:List Nat),(listed.getD k false=true→listed.getD i false=true)→jo ops f listed l→jo (edge ops i j) f listed l
 | 0,_,_,_,h=>h
 | f + 1, listed, l, hi, h => by
  rcases h with ⟨h1,rfl⟩|⟨x,l',hx,rfl,h⟩
  ·refine .inl ⟨?_,rfl⟩
   cases hq:Region.ready .any (edge ops i j) listed with
   | nil=>rfl
   | cons y ys =>
    have:=(Ye.1 (show y∈Region.ready .any (edge ops i j) listed by rw[hq];simp)).1
    rw[h1]at this;cases this
  ·refine .inr ⟨x,l',Ye.2 ⟨hx,fun e=>?_⟩,rfl,Q57 hki hjk f _ l' (fun hk=>?_) h⟩
   ·subst e;exact hi (Q50 hx hjk)
   ·by_cases e:x=k
    ·subst e;exact Q1w (Q50 hx hki)
    ·refine Q1w (hi ?_)
     simpa [e] using hk

def chain (ops:Array Oper):List (Nat × Nat × Nat)→Array Oper
 | []=>ops
 | (i,_,j)::r=>chain (edge ops i j) r
def Q6q (ops:Array Oper):List (Nat × Nat × Nat)→Bool
 | []=>true
 | (i,k,j)::r=>waits ops k i && (waits ops j k && Q6q (edge ops i j) r)
theorem Q5d:∀ (L:List (Nat × Nat × Nat)) (ops:Array Oper),(chain ops L).size=ops.size
 | [],_=>rfl
 | (i,_,j)::r,ops=>by
  show (chain (edge ops i j) r).size=_
  rw[Q5d r,Q83]
theorem Q3v:∀ (L:List (Nat × Nat × Nat)) (ops:Array Oper),Q6q ops L=true→∀ (f n:Nat) (l:List Nat),jo ops f (Array.replicate n false) l→jo (chain ops L) f (Array.replicate n false) l
 | [],_,_,_,_,_,h=>h
 | (i,k,j)::r,ops,hc,f,n,l,h=>by
  simp only[Q6q,Bool.and_eq_true]at hc
  refine Q3v r _ hc.2.2 f n l (Q57 hc.1 hc.2.1 f _ l (fun hk=>?_) h)
  exfalso
  by_cases hlt:k<n<;>simp[hlt]at hk
theorem Q36 {Q:Exit→Act→World→Prop}:∀ (L:List (Nat × Nat × Nat)) (ops:Array Oper) (l:List Nat) (a:Act) (w:World),wpOps P (chain ops L) Q l a w→wpOps P ops Q l a w
 | [],_,_,_,_,h=>h
 | (i,_,j)::r,ops,l,a,w,h=>YW l a w (Q36 r (edge ops i j) l a w h)
theorem Q2a {kd:Nat→Op→Kind} {tail:Nat}:∀ (L:List (Nat × Nat × Nat)) (ops:Array Oper) (l:List Nat),Ql kd (chain ops L) tail l=Ql kd ops tail l
 | [],_,_=>rfl
 | (i,_,j)::r,ops,l=>by
  show Ql kd (chain (edge ops i j) r) tail l=_
  rw[Q2a r,X2]
end

theorem WG {c:Cx} {Q:Exit→Act→World→Prop} {F:ak} {H:aj} {id:Nat} {ops:Array Oper} (Hs:aj) (iV:HSub Hs H) (L:List (Nat × Nat × Nat)) (kd:Nat→Op→Kind) (t:Nat) (o:List Nat) (hm:c.P.follows .mixedOrders=true)
  (hL:Q6q ops L=true) (hB:Wq c.P kd (chain ops L) o t=true) (h:JO c Q (.draw Hs true) (Ql kd ops t o) F H):JC c Q (.raw (.region id ops true)) F H:=⟨fun a w st=>by
 show (Code.region id ops true).wp c.P Q a w
 refine wp_mono ?_ (fun e a w h=>Q4i e a w h)
 have a1:=Wr (Q:=Q) hB st (iV.aV st.hs) (by rw[Q2a];exact h.h)
 rw[Q5d]at a1
 refine wp_region_draw fun t=>?_
 simp only[Region.schedule,hm,Bool.true_or,if_true]
 have h:=Q3v L ops hL _ _ _ (Q8y (ops:=ops) ops.size t (Array.replicate ops.size false))
 obtain⟨t',ht⟩:=Q69 _ _ _ h
 have:=wpAny_sound ops.size t' _ a _ a1
 rw[ht]at this
 exact Q36 L _ _ _ _ this⟩


theorem Qpv {K:Nat} {t:Tn} (h:BdT K t):BdT (K+1) t:=⟨Z2 h.a (Nat.le_succ K),Z2 h.b (Nat.le_succ K),Z2 h.c (Nat.le_succ K),Z2 h.d (Nat.le_succ K)⟩
theorem Q7r {K:Nat} {g:List (List Int)} (h:gZ K g=true):gZ (K+1) g=true:=by
 unfold gZ at h ⊢
 exact List.all_eq_true.2 fun r hr=>List.all_eq_true.2 fun x hx=>decide_eq_true (Z2 (of_decide_eq_true (List.all_eq_true.1 (List.all_eq_true.1 h r hr) x hx)) (Nat.le_succ K))
theorem Qpx {K:Nat} {S:Sm} (h:Ok K S):Ok (K+1) S:=⟨Q7r h.u,Q7r h.ui,Q7r h.d,Q7r h.v,Q7r h.vi⟩
theorem WkR.of {b:Nat} {W:WV} {m n:Nat} {T T1:WT} {S2:Sm} {w w':World} (h:WkR b W m n T1 S2 w w') (hV:iF T T1):∃ T2,keys (wkH b W m n T2)=keys (wkH b W m n T1)∧InW (wkH b W m n T2) w'∧IsWk W m n T2 S2∧iF T T2:=by
 obtain⟨_,T2,h1,h2,h3,h4⟩:=h
 exact⟨T2,h1,h2,h3,⟨fun a=>by rw[h4.u,hV.u],fun a=>by rw[h4.ui,hV.ui],fun a=>by rw[h4.d,hV.d],fun a=>by rw[h4.v,hV.v],fun a=>by rw[h4.vi,hV.vi]⟩⟩

theorem QS {s n:Nat} (h:s<n):List.range' s (n-s)=s::List.range' (s+1) (n-(s+1)):=by
 rw[show n-s=n-(s+1)+1 by omega,List.range'_succ]
def Qms (S:Sm) (t i j:Nat):Bool:=decide (gQ (gE S.d i j) (gE S.d t t)≠0)
theorem Qf6 {r c t a b:Nat} {g:List (List Int)} (h:Rec r c g) (ht:t<r) (hb:b<c):gE (negR t g) a b=if a=t then -(gE g a b) else gE g a b:=by
 have h1:=h.at ht
 unfold gE negR
 rw[YM (by rw[h.len];exact ht)]
 by_cases e:a=t
 ·subst e
  rw[if_pos rfl,if_pos rfl]
  generalize g.getD a []=l at h1
  simp[List.getD,List.getElem?_eq_getElem (show b<l.length by omega)]
 ·rw[if_neg e,if_neg e]
theorem Qlv {r c t a b:Nat} {g:List (List Int)} (h:Rec r c g) (ht:t<c) (ha:a<r):gE (negC t g) a b=if b=t then -(gE g a b) else gE g a b:=by
 have h1:=h.at ha
 have hl:=h.len
 have e:(negC t g).getD a []=(g.getD a []).set t (-((g.getD a []).getD t 0)):=by
  unfold negC
  rw[List.getD,List.getElem?_map,List.getD,List.getElem?_eq_getElem (show a<g.length by omega)]
  rfl
 unfold gE
 rw[e,YM oq]
 by_cases e1:b=t
 ·subst e1;rw[if_pos rfl]
 ·rw[if_neg e1,if_neg e1]
theorem Rec.negR {r c t:Nat} {g:List (List Int)} (h:Rec r c g) (ht:t<r):Rec r c (negR t g):=h.set (by rw[List.length_map];exact h.at ht)
theorem Rec.negC {r c t:Nat} {g:List (List Int)} (h:Rec r c g):Rec r c (negC t g) :=
 ⟨by unfold Go.Proofs.YtbofgpenopcfaaaGreatDoor.negC; rw [List.length_map, h.len], fun x hx => by
  unfold Go.Proofs.YtbofgpenopcfaaaGreatDoor.negC at hx
  obtain⟨y,hy,rfl⟩:=List.mem_map.1 hx
  rw[List.length_set];exact h.row y hy⟩




end Go.Proofs.YtbofgpenopcfaaaGreatDoor

namespace Go.Proofs.YtbofgpenopcfaaaGreatDoor
open Go Go.RowKit Go.Shelf Go.Lib
set_option linter.unusedSimpArgs false
set_option linter.unusedVariables false
set_option linter.unusedSectionVars false

def jJ:Ren:=⟨fun i=>if i=4 then 175 else i,fun i=>if i=0 then 0 else if i=3 then 3 else if i=4 then 4 else if i=9 then 9 else if i=20 then 20 else if i=22 then 26 else if i=25 then 75 else i,fun i=>i⟩
theorem Qod:Lays8.n4 Tryz.prog jJ where
 mixed:=mixed
 f4:=⟨"slices.Grow[[]cocycle/api.Wide,cocycle/api.Wide]",by decide,by kernel_rfl⟩
 t0:=by kernel_rfl
 a0:=fun _=>by kernel_rfl
 z0:=fun _=>by kernel_rfl
 v0:=fun _=>by kernel_rfl
 t3:=by kernel_rfl
 a3:=fun _=>by kernel_rfl
 z3:=fun _=>by kernel_rfl
 v3:=fun _=>by kernel_rfl
 t4:=by kernel_rfl
 a4:=fun _=>by kernel_rfl
 z4:=fun _=>by kernel_rfl
 v4:=fun _=>by kernel_rfl
 t9:=by kernel_rfl
 a9:=fun _=>by kernel_rfl
 z9:=fun _=>by kernel_rfl
 v9:=fun _=>by kernel_rfl
 t20:=by kernel_rfl
 a20:=fun _=>by kernel_rfl
 z20:=fun _=>by kernel_rfl
 v20:=fun _=>by kernel_rfl
 t22:=by kernel_rfl
 a22:=fun _=>by kernel_rfl
 z22:=fun _=>by kernel_rfl
 v22:=fun _=>by kernel_rfl

set_option maxRecDepth 100000 in
theorem Qoq (w:World) (n:Nat) (hn:n≤40000) :
  Calls Tryz.prog 175 #[.slice none 0 0,nv n] w (aQ fun v w'=>Kp [] w w'∧∃ N,New N w w'∧aN N v 0 []):=by
 rcases Nat.eq_zero_or_pos n with h0|h0
 ·subst h0
  exact(Any8.slices_Grow_room Qod none 0 0 0 w oq oq oq oq).mono fun e w' he=>by
   obtain⟨rfl,rfl⟩:=he
   exact⟨Kp.refl _ _,[],New.nil _ _,aN.nil⟩
 ·obtain⟨i,z,hi,hs,hby,hz,hzc⟩:=TE.info (P:=Tryz.prog) (e:=75) (sz:=2) (bytes:=24) (zc:=#[.bool false,.string ⟨#[]⟩])
  exact(Any8.slices_Grow_grow Qod i z hi hz oq none 0 0 n [] w oq oq (by rw[hby];omega) oq aA (fun _=>rfl) (fun a h=>by cases h)).mono fun e w' he=>by
   obtain⟨rfl,rfl⟩:=he
   have hge:=grownCap_ge w (0+n) 0 (jJ.t 25)
   have hcm:=grownCap_le_maxLen w (0+n) 0 (jJ.t 25) (by unfold maxLen;omega)
   have e25:jJ.t 25=75:=rfl
   rw[e25]at hge hcm ⊢
   rw[Vq]at hge hcm ⊢
   generalize grownCap w n 0 75=G at hge hcm ⊢
   refine⟨(Kp.drew [] w).trans (Kp.alloc [] _ _),[(w.heap.size,_)],New.one (V7 _) (heap_alloc_new w.drew _),rfl,.inr ⟨w.heap.size,G,_,rfl,rfl,V8 _,hcm,?_,rfl⟩⟩
   simp only[Array.size_append,size_zeroCells,hzc]
   simp
   omega

def IsG (w:World) (v:Value) (r c:Nat) (g:List (List Int)):Prop:=g.length=r∧∃ vs:List Value,jc w 1 v r vs∧∀ i,i<r→WZ w (vs.getD i (iv 0)) c (g.getD i [])
theorem IsG.mono {w w':World} {v:Value} {r c:Nat} {g:List (List Int)} (h:IsG w v r c g) (hk:Kp [] w w'):IsG w' v r c g:=by
 obtain⟨h1,vs,h2,h3⟩:=h
 exact⟨h1,vs,h2.mono hk,fun i hi=>(h3 i hi).mono hk⟩
theorem Q7z {g:List (List Int)} {k:Nat} (hk:k<g.length):(g.take (k+1)).flatten=(g.take k).flatten++g.getD k []:=by
 rw[List.take_add_one,List.flatten_append,List.getD,List.getElem?_eq_getElem hk]
 simp
theorem Qit (w:World) (v:Value) (r c:Nat) (g:List (List Int)) (hv:IsG w v r c g) (hr:r≤200) (hc:c≤200) :
  Calls Tryz.prog 158 #[v] w (aQ fun u w'=>Kp [] w w'∧∃ N,New N w w'∧aN N u (r*c) g.flatten):=by
 obtain⟨hgl,vs,hvs,hrow⟩:=hv
 have hvl:vs.length=r:=by have:=hvs.1;omega
 have hrc:r*c≤200*200:=Vn hr hc
 refine Qa [] [] aA [] Tryz.func158 rfl mixed (by kernel_rfl) Tryz.ntmps158 Tryz.results158 rfl ⟨by simp,by simp⟩ aA ?_
 simp only[toS,Qe,Qx,Qo,Qr,ay,Ql,Qy,aB]
 have hR:Rd ⟨Tryz.prog,36,w,[],by simp⟩ [] 1 v r vs:=hvs.rd rfl []
 have hRr:∀ i,i<r→fH ⟨Tryz.prog,36,w,[],by simp⟩ [] (vs.getD i (iv 0)) c (g.getD i []):=fun i hi=>(hrow i hi).rd rfl []
 repeat' first|apply jS|apply jO|apply jN|refine Q1 ?_|refine Q0 ?_|apply jT
 refine Xy rfl rfl rfl hR ?_
 repeat' first|apply jN|apply jT|refine Q1 ?_|apply jB
 refine Qn (ι:=Nat) ⟨fun z=>[(11,nv z),(10,nv r),(9,v),(3,nv (z*c)),(0,v)],fun _=>[],fun z=>z≤r,fun z=>r-z⟩ 0 (V8 _) (by dsimp only;rw[Nat.zero_mul];exact aC) (HSub.nil _) (fun k hk=>?_)
 dsimp only at hk ⊢
 by_cases hlt:k<r
 ·have hk1:(k+1)*c≤r*c:=V1 _ oq
  rw[Nat.succ_mul]at hk1
  have hRk:=hRr k hlt
  repeat' first|apply jS|apply jO|apply jN|apply jT|(refine Qg (h1:=?_) (h2:=?_)<;>intro hc<;>try omega)|apply jK|refine Q5 rfl ?_|apply jB
  refine X5 rfl rfl rfl rfl hR hlt ?_
  skip
  refine Q1q rfl rfl rfl rfl hR (HSub.nil _) (XB (d:=iv 0) oq) ?_
  repeat' first|apply jS|apply jO|apply jN|apply jT|refine Q1 ?_|refine Q0 ?_|refine Zt (h:=?_)|refine Qd ?_|refine Z8 (h:=?_)|(refine Qg (h1:=?_) (h2:=?_)<;>intro hc<;>try omega)|apply jK|refine Q4 rfl ?_|apply jW
  exact Q8 (k+1) gY gY (by dsimp only;rw[Nat.succ_mul];exact aC) (HSub.nil _)
 ·obtain rfl:k=r:=by omega
  clear hk hlt
  repeat' first|apply jS|apply jO|apply jN|apply jT|refine Q1 ?_|(refine Qg (h1:=?_) (h2:=?_)<;>intro hc<;>try omega)|apply jU|apply jE|refine Q4 rfl ?_|apply Qc
  refine Qt (A:=[]) (B:=[]) rfl au rfl aF rfl (fun w hk hs=>Qoq w (k*c) oq) fun w v6 w' _ _ _ hR6=>?_
  obtain⟨N,hN,hO⟩:=hR6
  refine⟨N,hN,?_⟩
  repeat' first|apply jS|apply jO|apply jN|refine Q1 ?_|refine Q0 ?_|apply jT
  refine Xy rfl rfl rfl hR ?_
  repeat' first|apply jN|apply jT|refine Q1 ?_|apply jB
  refine Qn (ι:=Nat × aj × Value) ⟨fun z=>[(27,nv z.1),(26,nv k),(25,v),(6,z.2.2),(0,v)],fun z=>z.2.1++[],fun z=>z.1≤k∧aN z.2.1 z.2.2 (z.1*c) (g.take z.1).flatten,fun z=>k-z.1⟩ (0,N,v6) ⟨V8 _,by dsimp only;rw[Nat.zero_mul];exact hO⟩ aC (by simpa using HSub.refl _) (fun z hz=>?_)
  clear hO
  obtain⟨i,N,v6⟩:=z
  obtain⟨hik,hO⟩:=hz
  dsimp only at hik hO ⊢
  by_cases hlt:i<k
  ·have hk1:(i+1)*c≤k*c:=V1 _ oq
   rw[Nat.succ_mul]at hk1
   have hRk:=hRr i hlt
   repeat' first|apply jS|apply jO|apply jN|apply jT|(refine Qg (h1:=?_) (h2:=?_)<;>intro hc<;>try omega)|apply jK|refine Q5 rfl ?_|apply jB
   refine X5 rfl rfl rfl rfl hR hlt ?_
   skip
   refine Q1q rfl rfl rfl rfl hR (HSub.nil _) (XB (d:=iv 0) oq) ?_
   repeat' first|apply jO|apply jN|refine Q1 ?_|refine Q0 ?_|apply jT
   refine Zi (A:=[]) (B:=[]) hO hRk (HSub.nil _) rfl au rfl rfl rfl rfl oq (fun v' N' aX=>?_)
   rw[← Q7z oq, ← Nat.succ_mul]at aX
   repeat' first|apply jO|apply jN|apply jT|refine Q1 ?_|refine Q0 ?_|refine Qd ?_|apply jW
   exact Q8 (i+1,N',v') ⟨by dsimp only;omega,aX⟩ aW aC (HSub.refl _)
  ·obtain rfl:i=k:=by omega
   rw[Vd oq]at hO
   repeat' first|apply jS|apply jO|apply jN|apply jT|refine Q1 ?_|refine Q0 ?_|(refine Qg (h1:=?_) (h2:=?_)<;>intro hc<;>try omega)|apply jU|apply jE|apply jR|refine Q4 rfl ?_|apply Qc
   exact Qj rfl (fun a w' st=>⟨st.kp,N,st.bI rfl (by simpa using HSub.refl _),hO⟩)

def gM (r c:Nat) (g:List (List Int)):ZM:=⟨r,c,g.flatten⟩
theorem QQ {r c:Nat} {g:List (List Int)} (h:Rec r c g):g.flatten.length=r*c:=by
 have h1:∀ (l:List (List Int)),(∀ x∈l,x.length=c)→l.flatten.length=l.length*c:=by
  intro l
  induction l with
  | nil=>intro _;simp
  | cons x l ih =>
   intro hx
   rw[List.flatten_cons,Vi,ih (fun y hy=>hx y (by simp[hy])),hx x aA,List.length_cons,Nat.succ_mul]
   omega
 rw[h1 g h.row,h.len]
theorem Wo {r c:Nat} {g:List (List Int)} (h:Rec r c g) (hr:r≤200) (hc:c≤200):gJ (gM r c g):=⟨hr,hc,QQ h⟩
end Go.Proofs.YtbofgpenopcfaaaGreatDoor

