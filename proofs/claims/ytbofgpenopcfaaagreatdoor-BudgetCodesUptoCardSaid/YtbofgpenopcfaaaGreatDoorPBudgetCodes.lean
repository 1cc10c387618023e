import Derived.Test.YtbofgpenopcfaaaGreatDoorMq
import Derived.Test.YtbofgpenopcfaaaGreatDoorMo
import Derived.Test.YtbofgpenopcfaaaGreatDoorRows
import Derived.Lib.LaidTab
import Derived.Stop.LaidErr
import Derived.MakeChecks
import Derived.ChangeMaps
import Derived.Test.YtbofgpenopcfaaaGreatDoorTie
import Derived.Test.YtbofgpenopcfaaaGreatDoorCards
import Derived.Shelf.Lay
import Derived.Lay
import Derived.LaidOnce
import Derived.SevenTiedAt
import Derived.Deep.DeepHandedRow
set_option maxHeartbeats 16000000
/- The arguments of the law BudgetCodes, and the table that Itoa reads. -/
namespace Go.Proofs.YtbofgpenopcfaaaGreatDoor
open Go Go.RowKit Go.ChangeShapes Go.WideShapes Go.ChangeAt
set_option linter.unusedSimpArgs false
set_option linter.unusedVariables false
set_option linter.unusedSectionVars false

theorem Qkh {W:World} (h:laidMetH Tryz.prog Rows.budgetCodesUptoRow.laid W):iU W:=by
 rw[MakeChecks.laidMetH_plain _ _ _ (by kernel_rfl)]at h
 have h2:laidMet Tryz.prog _ W:=laidMet.tail (laidMet.tail h)
 exact Lib.tabIs_of_head (t:=231) (e:=126) (n:=20) Qn7 (by kernel_rfl) Tryz.underlying231 Tryz.underlying126 (by kernel_rfl) (by kernel_rfl) h2
set_option maxRecDepth 100000 in
theorem Qek {H:Type} {enc:TypeId × Value→H} {w:World} {r:Reach} {b0:Nat} {held:Bool} {v:Value} {d:DataW H} {ps:List MemPlace} (hv:Value.okWide Tryz.prog w r b0 9 v)
  (h:DataW.Trod enc Tryz.prog w 0 (fun _=>true) held 9 v d ps):∃ l:List UInt8,v=sv l∧l.length<Rows.uptoBulk d:=by
 obtain⟨s,rfl,rfl,_,_⟩:=Go.ChangeMaps.open_string Tryz.underlying9 hv h
 obtain⟨⟨l⟩⟩:=s
 exact⟨l,rfl,by simp[Rows.uptoBulk]⟩
theorem Q5n {z:Int} (h:(Lit.int .u16 z).wf=true):∃ n:Nat,z=n∧n<65536:=by
 have hmin:IntKind.u16.min=0:=by decide
 have hmax:IntKind.u16.max=65535:=by decide
 simp only[Lit.wf,Bool.and_eq_true,decide_eq_true_eq,hmin,hmax]at h
 exact⟨z.toNat,by omega,by omega⟩
theorem Qm3:Tryz.prog.cellsOf 64=4:=by kernel_rfl
theorem Qm4:Tryz.prog.cellsOf 63=1:=by kernel_rfl
set_option maxRecDepth 100000 in
theorem Qce {H:Type} {enc:TypeId × Value→H} {w:World} {r:Reach} {b0:Nat} {held:Bool} {v:Value} {d:DataW H} {ps:List MemPlace} (hv:Value.okWide Tryz.prog w r b0 64 v)
  (h:DataW.Trod enc Tryz.prog w 0 (fun _=>true) held 64 v d ps):∃ q0 q1 q2 q3:Nat,v=.agg #[.int .u16 (q0:Int),.int .u16 (q1:Int),.int .u16 (q2:Int),.int .u16 (q3:Int)]∧q0<65536∧q1<65536∧q2<65536∧q3<65536:=by
 obtain⟨cs,rfl,hsz⟩:=Q7q Tryz.underlying64 hv
 rw[Qm3]at hsz
 obtain⟨l⟩:=cs
 obtain⟨c0,c1,c2,c3,rfl⟩:∃ c0 c1 c2 c3,l=[c0,c1,c2,c3]:=by
  match l,hsz with
  | [a,b,c,d],_=>exact⟨a,b,c,d,rfl⟩
 obtain⟨fuel,hf⟩:=h
 obtain⟨xs,m,_,_,_,hx,hall⟩:=DataW.trod_array Tryz.underlying64 hf
 have a0:=hall 0 oq
 have a1:=hall 1 oq
 have a2:=hall 2 oq
 have a3:=hall 3 oq
 rw[Qm4]at a0 a1 a2 a3
 rw[List.getElem?_eq_getElem oq]at a0 a1 a2 a3
 obtain⟨n0,e0,_,w0⟩:=DataW.trod_int Tryz.underlying63 (show DataW.trod enc Tryz.prog w 0 (fun _=>true) held m 63 [c0]=some _ from a0)
 obtain⟨n1,e1,_,w1⟩:=DataW.trod_int Tryz.underlying63 (show DataW.trod enc Tryz.prog w 0 (fun _=>true) held m 63 [c1]=some _ from a1)
 obtain⟨n2,e2,_,w2⟩:=DataW.trod_int Tryz.underlying63 (show DataW.trod enc Tryz.prog w 0 (fun _=>true) held m 63 [c2]=some _ from a2)
 obtain⟨n3,e3,_,w3⟩:=DataW.trod_int Tryz.underlying63 (show DataW.trod enc Tryz.prog w 0 (fun _=>true) held m 63 [c3]=some _ from a3)
 simp only[List.cons.injEq,and_true]at e0 e1 e2 e3
 subst e0 e1 e2 e3
 obtain⟨m0,rfl,l0⟩:=Q5n w0
 obtain⟨m1,rfl,l1⟩:=Q5n w1
 obtain⟨m2,rfl,l2⟩:=Q5n w2
 obtain⟨m3,rfl,l3⟩:=Q5n w3
 exact⟨m0,m1,m2,m3,rfl,l0,l1,l2,l3⟩

end Go.Proofs.YtbofgpenopcfaaaGreatDoor

/-
 LawBudgetCodes: for every input the call of 'cocycle/cocyclelaw26.BudgetCodes' returns true,and every argument reads afterwards as it read before. Conditions: the arguments are together of bulk at most 1048576. The card.
-/
namespace Go.Proofs.YtbofgpenopcfaaaGreatDoor.budgetCodes
open Go Go.RowKit Go.ChangeShapes Go.WideShapes Go.ChangeAt

theorem reads (os:Os) {H:Type} (enc:TypeId × Value→H):∃ places,DataW.whole enc Tryz.prog ((World.laidAll Tryz.prog os Rows.budgetCodesUptoRow.laid).forCall (fun _ _=>0) ⟨#[],#[.agg #[.int .u8 0,.int .u8 0,.slice none 0 0],.agg #[.int .u16 0,.int .u16 0,.int .u16 0,.int .u16 0],.string ⟨#[]⟩],[]⟩).memory Tryz.f10.params.toList Rows.budgetCodesSpec.vars false (#[.agg #[.int .u8 0,.int .u8 0,.slice none 0 0],.agg #[.int .u16 0,.int .u16 0,.int .u16 0,.int .u16 0],.string ⟨#[]⟩]:Array Value).toList 8=some ([.agg [.lit (.int .u8 0),.lit (.int .u8 0),.nil],.agg [.lit (.int .u16 0),.lit (.int .u16 0),.lit (.int .u16 0),.lit (.int .u16 0)],.lit (.string [])],[],places) :=
 ⟨[],by kernel_rfl⟩
theorem okW (os:Os):Input.okWideB Tryz.checked.prog ((World.laidAll Tryz.prog os Rows.budgetCodesUptoRow.laid).forCall (fun _ _=>0) ⟨#[],#[.agg #[.int .u8 0,.int .u8 0,.slice none 0 0],.agg #[.int .u16 0,.int .u16 0,.int .u16 0,.int .u16 0],.string ⟨#[]⟩],[]⟩) 10 ⟨#[],#[.agg #[.int .u8 0,.int .u8 0,.slice none 0 0],.agg #[.int .u16 0,.int .u16 0,.int .u16 0,.int .u16 0],.string ⟨#[]⟩],[]⟩=true:=by kernel_rfl
set_option maxRecDepth 100000 in
theorem lifted (os:Os) (started:os.Started) (H:Type) (enc:TypeId × Value→H) (F:Stop.Interp) :
  ReturnsInHanded {} Tryz.checked os 10 .any ((Rows.OpenSpec.upto Rows.budgetCodesSpec).preRow enc Tryz.prog Tryz.f10 Rows.budgetCodesUptoRow.domain false Rows.budgetCodesUptoRow.laid) (((Rows.OpenSpec.upto Rows.budgetCodesSpec).at F).post enc Tryz.prog Tryz.f10 false true false false):=by
 obtain⟨places,hx⟩:=reads os enc
 refine returnsInHanded_of_row (C:=Tryz.checked) (s:=Rows.OpenSpec.upto Rows.budgetCodesSpec) own started (by kernel_rfl) Tryz.func10
  ⟨World.laidAll Tryz.prog os Rows.budgetCodesUptoRow.laid, fun _ _ => 0, ⟨#[], #[.agg #[.int .u8 0, .int .u8 0, .slice none 0 0], .agg #[.int .u16 0, .int .u16 0, .int .u16 0, .int .u16 0], .string ⟨#[]⟩], []⟩, World.laidAll_os _ _ _, World.shaped_of_ZipB (by kernel_rfl) (by kernel_rfl), (Input.okWide_of_okWideB (base := 0) (okW os)).1, (Input.okWide_of_okWideB (okW os)).2,
   OpenSpec.preRow_of_cond 8 hx (by kernel_rfl) (fun k hk=>by cases hk;kernel_rfl) (by kernel_rfl) (by rw[MakeChecks.laidMetH_plain _ _ _ (by kernel_rfl)];exact laidMet_laidAll _ (by kernel_rfl) (by kernel_rfl)),by
   simp only[Assume.holds]
   exact⟨by simp,by simp,fun _=>Modest.zero,by simp,by simp⟩⟩ ?_
 intro W base args ds gs before hval0 hW _ hcond hwt0 hL hsh _
 have hb:Rows.uptoBulkAll (ds++gs)≤1048576:=of_decide_eq_true (hcond _ rfl)
 have hval:∀ (j:Nat) t v,Tryz.f10.params[j]?=some t→args[j]?=some v→Value.okWide Tryz.prog W .any base t v:=hval0
 have hW':=hW
 obtain⟨p,q,hA0,hV,rfl,hfz,hnd⟩:=hW
 have hA:DataW.TrodAll enc Tryz.prog W 0 (fun _=>true) true Tryz.f10.params.toList args.toList ds p:=hA0
 have hwt:(DataW.weightsEach Tryz.prog (Tryz.f10.params.toList++Rows.budgetCodesSpec.plain.varTypes Tryz.prog) (ds++gs)).all (· ≤ reachBytes)=true:=hwt0
 have hwt1:=fun n hn=>of_decide_eq_true (List.all_eq_true.1 hwt n hn)
 rw[Tryz.params10]at hA hval hwt1
 obtain⟨v0,vs0,d0,ds0,p0,q0,hargs,rfl,rfl,h0,r0⟩:=trodAll_cons hA
 obtain⟨v1,vs1,d1,ds1,p1,q1,rfl,rfl,rfl,h1,r1⟩:=trodAll_cons r0
 obtain⟨v2,vs2,d2,ds2,p2,q2,rfl,rfl,rfl,h2,r2⟩:=trodAll_cons r1
 obtain⟨rfl,rfl,rfl⟩:=trodAll_nil r2
 obtain rfl:args=#[v0,v1,v2]:=by cases args;simp_all
 obtain⟨rfl,rfl⟩:=trodVars_none hV
 simp only[Rows.uptoBulkAll,Vg,Vr,Vh]at hb
 have k0:=h0
 have lt0:∀ x∈p0,x.block<W.heap.size:=by obtain⟨m,hm⟩:=k0;exact DataW.trod_lt m _ _ _ hm
 obtain⟨R0,C0,L0,s0⟩:=Qcd (hval 0 24 v0 rfl rfl) h0
 have k1:=h1
 have lt1:∀ x∈p1,x.block<W.heap.size:=by obtain⟨m,hm⟩:=k1;exact DataW.trod_lt m _ _ _ hm
 obtain⟨x1,y1,z1,u1,rfl,s1,t1,w1,j1⟩:=Qce (hval 1 64 v1 rfl rfl) h1
 have k2:=h2
 have lt2:∀ x∈p2,x.block<W.heap.size:=by obtain⟨m,hm⟩:=k2;exact DataW.trod_lt m _ _ _ hm
 obtain⟨x2,rfl,s2⟩:=Qek (hval 2 9 v2 rfl rfl) h2
 clear hA0 hval0
 refine(Q6v W (Qli hsh) (Qkh hL) v0 R0 C0 L0 x1 y1 z1 u1 x2 s0 s1 t1 w1 j1 oq).mono fun e W' he=>?_
 cases e with
 | panicked _=>exact he.elim
 | outgrown=>exact he.elim
 | returned u =>
  obtain⟨hk,rfl⟩:=he
  have bel:Below W.heap.size W W':=⟨hk.os,hk.tape,hk.output,hk.size,fun k hk2=>hk.block k hk2 aA⟩
  exact⟨_,rfl,_,_,_,[],_,[],hW',trodAll_mk1 (shut_bool Tryz.underlying4 _),(trodAll_cons_mk (Below.trod Q94 (by kernel_rfl) (of_decide_eq_true (by kernel_rfl)) k0 bel lt0) (trodAll_cons_mk (Below.trod Q94 (by kernel_rfl) (of_decide_eq_true (by kernel_rfl)) k1 bel lt1) (trodAll_cons_mk (Below.trod Q94 (by kernel_rfl) (of_decide_eq_true (by kernel_rfl)) k2 bel lt2) trodAll_mk0))),rfl,bel.frame _,fun h=>by cases h⟩

theorem holds:Rows.BudgetCodesUptoSaid :=
 OpenClaim.holds_of_cond 10 Tryz.f10 rfl rfl rfl rfl rfl rfl rfl ⟨rfl,rfl,rfl,rfl,rfl⟩ rfl rfl rfl rfl rfl (by kernel_rfl) Tryz.func10 (by kernel_rfl)
  (of_decide_eq_true (by kernel_rfl)) (by unfold Func.isWrapper;first|(rw[if_pos (by decide +kernel)];kernel_rfl)|(rw[if_neg (by decide +kernel)];exact⟨rfl,rfl⟩))
  (fun os started H enc _ F=>by rw[OpenClaim.pre_eq_preRow];exact lifted os started H enc F)

theorem proved:Rows.BudgetCodesUptoCardSaid :=
 Claim7.holds_tied_plain_at .later [] [.data,.data,.data,.data,.pinned] true (true, "4eee24e68e9da2f3535c5523be67926112959e5e11c21b25d64df063dc7a57d9") false holds (fun _ h=>by cases h) (by kernel_rfl) (fun _ h=>by cases h) budgetCodesUpto_row_tie rfl ⟨rfl,rfl⟩ (by kernel_rfl) rfl
  (fun f fn hf hfn => by
   obtain rfl:f=10:=Option.some.inj ((show Tryz.prog.funcNamed "cocycle/cocyclelaw26.BudgetCodes" = some 10 by kernel_rfl).symm.trans hf) |>.symm
   obtain rfl:fn=Tryz.f10:=(Option.some.inj (Tryz.func10.symm.trans hfn)).symm
   exact⟨by kernel_rfl,fun j t ht=>by
    rw[Tryz.params10]at ht
    have hm:t∈[24,64,9]:=by simpa using Array.mem_of_getElem? ht
    have hall:([24,64,9].all fun u=>!Tryz.prog.wantsStandIn u)=true:=by kernel_rfl
    exact(show Tryz.prog.wantsStandIn t=false by simpa using List.all_eq_true.1 hall t hm)⟩)
  (by kernel_rfl)

end Go.Proofs.YtbofgpenopcfaaaGreatDoor.budgetCodes

