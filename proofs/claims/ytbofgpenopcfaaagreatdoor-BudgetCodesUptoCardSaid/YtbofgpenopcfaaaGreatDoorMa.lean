import Derived.OrdersHeld
import Derived.Tactics
import Derived.Below
import Derived.Scope
import Derived.IntWalk
import Derived.ControlIn
import Derived.Laws.Bits
import Derived.Laws.AppendOwn
set_option maxHeartbeats 16000000
namespace Go.Proofs.YtbofgpenopcfaaaGreatDoor
open Go Go.RowKit
theorem V0 {a b c:Nat}(h:a≤b)(k:b≤c):a≤c:=Nat.le_trans h k
theorem V1 {a b:Nat}(k:Nat)(h:a≤b):a*k≤b*k:=Nat.mul_le_mul_right k h
theorem V3 {a b:Nat}(k:Nat)(h:a≤b):k*a≤k*b:=Nat.mul_le_mul_left k h
theorem V4 {n a b:Nat}(h:0<n)(k:a≤b):n^a≤n^b:=Nat.pow_le_pow_right h k
theorem V5 {a b c:Nat}(h:a≤b)(k:b<c):a<c:=Nat.lt_of_le_of_lt h k
theorem V6 {a b c:Nat}(h:a<b)(k:b≤c):a<c:=Nat.lt_of_lt_of_le h k
theorem V7 (a:Nat):a≤a:=Nat.le_refl a
theorem V8 (a:Nat):0≤a:=Nat.zero_le a
theorem V9 (a b:Nat):a^(b+1)=a^b*a:=Nat.pow_succ a b
theorem Va (a b:Nat):a*b=b*a:=Nat.mul_comm a b
theorem Vb {α:Type}(a b c:List α):a++b++c=a++(b++c):=List.append_assoc a b c
theorem Vc {α:Type}(y:α){a:α}{l:List α}(h:a∈l):a∈y::l:=List.mem_cons_of_mem y h
theorem Vd {α:Type}{i:Nat}{l:List α}(h:l.length≤i):l.take i=l:=List.take_of_length_le h
theorem Ve {p:Prop}[d:Decidable p](h:¬p→False):p:=Decidable.byContradiction h
theorem Vf {α:Type}{a:α}{l:List α}:a∈a::l:=List.mem_cons_self
theorem Vg {α:Type}{a:α}{b c:List α}:a::b++c=a::(b++c):=rfl
theorem Vh {α:Type}(b:List α):b++[]=b:=List.append_nil b
theorem Vi {α:Type}{a b:List α}:(a++b).length=a.length+b.length:=List.length_append
theorem Vj {α β:Type}{f:α→β}{a b:List α}:(a++b).map f=a.map f++b.map f:=List.map_append
theorem Vk (a b c:Nat):a*b*c=a*(b*c):=Nat.mul_assoc a b c
theorem Vl (a b c:Nat):(a+b)*c=a*c+b*c:=Nat.add_mul a b c
theorem Vm (a b c:Nat):a*(b+c)=a*b+a*c:=Nat.mul_add a b c
theorem Vn {a b c d:Nat}(h:a≤b)(k:c≤d):a*c≤b*d:=Nat.mul_le_mul h k
theorem Vo {α:Type}{a:α}:[a].length=1:=rfl
theorem Vp (a:Nat):a+0=a:=rfl
theorem Vq (a:Nat):0+a=a:=Nat.zero_add a
theorem Vr {α:Type}(b:List α):[]++b=b:=rfl
theorem oq {p:Prop} (h:p:=by omega):p:=h
theorem dq {p:Prop} (h:p:=by decide):p:=h
theorem aW {p:Prop} (h:p:=by(dsimp only;omega)):p:=h
theorem gY {p:Prop} (h:p:=by first|omega|(dsimp only;omega)):p:=h
theorem aA {p:Prop} (h:p:=by simp):p:=h
set_option linter.unusedSimpArgs false
set_option linter.unusedVariables false
set_option linter.unusedSectionVars false

inductive Kind where
 | bg|ld|alloc|seq
 deriving DecidableEq

structure bT where
 dst:Option Tmp
 op:Op
 type:TypeId
 guard:Option (Option Tmp × Bool)
 kind:Kind
 ns:Bool

def bT.oper (o:bT):Oper:={ dst:=o.dst,op:=o.op,type:=o.type,pos := "",after:=#[],guard:=none }

def Qbq (tmps:Array Value) (t:Option Tmp):Option Bool :=
 match t.bind (tmps[·]?)with
 | some (.bool b)=>some b
 | _=>none

def bT.wanted (o:bT) (tmps:Array Value):Bool :=
 match o.guard with
 | none=>true
 | some (t,want)=>Qbq tmps t == some want

def Qr:Op→Kind
 | .move _ | .assign _ | .pick .. | .binOp .. | .unOp .. | .extract .. | .field .. | .fieldAddr .. | .indexAddr .. | .index .. | .slice .. | .makeFunc .. | .nilCheck .. | .convert .. | .build ..=>.bg
 | .load ..=>.ld
 | .call { callee:=.builtin .len,.. } | .call { callee:=.builtin .cap,.. } | .call { callee:=.builtin .min,.. } | .call { callee:=.builtin .max,.. }=>.bg
 | .alloc _ | .box .. | .buildSlice .. | .makeSlice ..=>.alloc
 | _=>.seq

def Qo (ov:List (Nat × Kind)) (i:Nat) (op:Op):Kind :=
 match ov with
 | []=>Qr op
 | (j,k)::r=>bif Nat.beq j i then k else Qo r i op

def Qx (ops:Array Oper) (k:Kind) (ns:Bool) (o:Oper):bT :=
 {dst:=o.dst,op:=o.op,type:=o.type,
  guard:=match o.guard with|none=>none|some (j,want)=>some (match ops[j]? with|some g=>g.dst|none=>none,want),
  kind:=k,ns }

theorem ZK (ops:Array Oper) (k:Kind) (ns:Bool) (o:Oper) (tmps:Array Value):(Qx ops k ns o).wanted tmps=Region.wanted o (yielded ops tmps):=by
 unfold bT.wanted Qx Region.wanted yielded Qbq
 obtain⟨dst,op,type,pos,after,guard⟩:=o
 cases guard with
 | none=>rfl
 | some g =>
  obtain⟨j,want⟩:=g
  simp only[]
  cases ops[j]?<;>rfl

theorem X8 (ρ:Operand→Value) (ops:Array Oper) (k:Kind) (ns:Bool) (o:Oper):execOp ρ (Qx ops k ns o).oper=execOp ρ o:=by
 unfold Qx bT.oper
 obtain⟨dst,op,type,pos,after,guard⟩:=o
 cases op<;>rfl

theorem Qcw (P:Program) (ops:Array Oper) (k:Kind) (ns:Bool) (o:Oper) (a:Act) (w:World) (next:Act→World→Prop) (Q:Exit→Act→World→Prop) :
  (Qx ops k ns o).oper.wp P a w next Q=o.wp P a w next Q:=by
 unfold Oper.wp
 rw[X8]
 have:(Qx ops k ns o).oper.upon P a next Q=o.upon P a next Q:=by
  funext r
  unfold Oper.upon Qx bT.oper
  rfl
 rw[this]

def Only (K:Act→World→Prop):Exit→Act→World→Prop
 | .normal,a,w=>K a w
 | _,_,_=>False

theorem Q4i {Q:Exit→Act→World→Prop}:∀ (e:Exit) (a:Act) (w:World),Only (Q .normal) e a w→Q e a w:=fun e a w h=>by
 cases e<;>first|exact h|exact h.elim

abbrev ak:=List (Nat × Value)

def look:ak→Nat→Option Value
 | [],_=>none
 | (i,v)::r,j=>bif Nat.beq i j then some v else look r j

def ev (F:ak):Operand→Option Value
 | .tmp t=>look F t
 | .const v=>some v
 | .global g=>some (.pointer (some ⟨g,0,none⟩))
 | .func f=>some (.func (.func f) #[] #[])

def dN (F:ak) (d:Option Tmp) (v:Value):ak :=
 match d with
 | some d=>(d,v)::F
 | none=>F

def Qi (F:ak):Option (Option Tmp × Bool)→Option Bool
 | none=>some true
 | some (none,_)=>some false
 | some (some t,want)=>match look F t with
  | none=>none
  | some (.bool b)=>some (b == want)
  | some _=>some false

structure dQ (n:Nat) (F:ak) (a:Act):Prop where
 defers:a.defers=[]
 size:a.tmps.size=n
 fr:∀ i v,look F i=some v→a.tmps[i]?=some v

abbrev aj:=List (Nat × Obj)

structure Kp (M:List Nat) (w w':World):Prop where
 os:w'.os=w.os
 tape:w'.tape=w.tape
 output:w'.output=w.output
 size:w.heap.size≤w'.heap.size
 block:∀ k,k<w.heap.size→k∉M→w'.heap[k]?=w.heap[k]?

structure aG (H:aj) (w:World):Prop where
 nd:(H.map (·.1)).Nodup
 blk:∀ p∈H,w.heap[p.1]?=some p.2

structure Cx where
 P:Program
 n:Nat
 w0:World
 M:List Nat
 hM:∀ k∈M,k<w0.heap.size

structure St (c:Cx) (F:ak) (H:aj) (a:Act) (w:World):Prop where
 fr:dQ c.n F a
 kp:Kp c.M c.w0 w
 hs:aG H w
 wr:∀ p∈H,c.w0.heap.size≤p.1∨p.1∈c.M

theorem Kp.refl (M:List Nat) (w:World):Kp M w w:=⟨rfl,rfl,rfl,V7 _,fun _ _ _=>rfl⟩
theorem Kp.trans {M:List Nat} {a b c:World} (h:Kp M a b) (k:Kp M b c):Kp M a c :=
 ⟨k.os.trans h.os,k.tape.trans h.tape,k.output.trans h.output,V0 h.size k.size,fun i hi hm=>(k.block i (V6 hi h.size) hm).trans (h.block i hi hm)⟩
theorem Kp.mono {M M':List Nat} {w w':World} (h:Kp M w w') (hm:∀ k∈M,k<w.heap.size→k∈M'):Kp M' w w' :=
 ⟨h.os,h.tape,h.output,h.size,fun k hk hn=>h.block k hk fun hx=>hn (hm k hx hk)⟩
theorem Kp.alloc (M:List Nat) (w:World) (o:Obj):Kp M w (w.alloc o) :=
 ⟨rfl,rfl,rfl,by show _≤(w.heap.push o).size;simp,fun k hk _=>by show (w.heap.push o)[k]?=_;rw[Array.getElem?_push,if_neg oq]⟩
theorem Kp.drew (M:List Nat) (w:World):Kp M w w.drew:=⟨rfl,rfl,rfl,V7 _,fun _ _ _=>rfl⟩
theorem Kp.setCell (M:List Nat) (w:World) (p:Addr) (v:Value) (h:p.block∈M):Kp M w (w.setCell p v) :=
 ⟨rfl,rfl,rfl,by simp[World.setCell],fun k _ hm=>Below.heap_setCell _ _ _ _ (fun e=>hm (e▸h))⟩
theorem aG.lt {H:aj} {w:World} (h:aG H w) {p:Nat × Obj} (hp:p∈H):p.1<w.heap.size:=by
 have:=h.blk p hp
 rcases Nat.lt_or_ge p.1 w.heap.size with h'|h'
 ·exact h'
 ·rw[Array.getElem?_eq_none h']at this;cases this

theorem aG.kp {H:aj} {M:List Nat} {w w':World} (h:aG H w) (k:Kp M w w') (hm:∀ p∈H,p.1∉M):aG H w' :=
 ⟨h.nd,fun p hp=>(k.block p.1 (h.lt hp) (hm p hp)).trans (h.blk p hp)⟩

theorem aG.fresh {H:aj} {w:World} (h:aG H w):w.heap.size∉H.map (·.1):=by
 intro hm
 obtain⟨p,hp,he⟩:=List.mem_map.1 hm
 have:=h.lt hp
 omega

theorem aG.alloc {H:aj} {w:World} (h:aG H w) (o:Obj):aG H (w.alloc o):=h.kp (Kp.alloc [] w o) aA
theorem aG.cons {H:aj} {w:World} (h:aG H w) {b:Nat} {o:Obj} (hb:w.heap[b]?=some o) (hn:b∉H.map (·.1)):aG ((b,o)::H) w :=
 ⟨List.nodup_cons.2 ⟨hn, h.nd⟩, fun p hp => by
  rcases List.mem_cons.1 hp with rfl|hp
  ·exact hb
  ·exact h.blk p hp⟩

theorem Q70 (w:World) (o:Obj):(w.alloc o).heap[w.heap.size]?=some o:=by
 show (w.heap.push o)[w.heap.size]?=_
 simp

theorem St.alloc {c:Cx} {F:ak} {H:aj} {a:Act} {w:World} (h:St c F H a w) (o:Obj):St c F H a (w.alloc o) :=
 ⟨h.fr,h.kp.trans (Kp.alloc _ _ _),h.hs.alloc o,h.wr⟩

theorem Qi8 {F:ak} {d:Option Tmp} {v u:Value} {i:Nat} (h:look (dN F d v) i=some u):(d=some i∧u=v)∨(d≠some i∧look F i=some u):=by
 cases d with
 | none=>exact .inr ⟨by simp,h⟩
 | some d =>
  simp only[dN,look]at h
  cases hd:Nat.beq d i with
  | true=>rw[hd]at h;simp only[cond_true,Option.some.injEq]at h;exact .inl ⟨by rw[Nat.eq_of_beq_eq_true hd],h.symm⟩
  | false=>rw[hd]at h;simp only[cond_false]at h;exact .inr ⟨fun e=>Nat.ne_of_beq_eq_false hd (Option.some.inj e),h⟩

def Qw (n:Nat):Option Tmp→Bool
 | none=>true
 | some d=>Nat.blt d n

theorem dQ.put {n:Nat} {F:ak} {a:Act} (h:dQ n F a) {d:Option Tmp} (v:Value) (hd:Qw n d=true):dQ n (dN F d v) (a.put d v):=by
 refine⟨by cases d<;>exact h.defers,by cases d<;>simp[Act.put,h.size],fun i u hu=>?_⟩
 rcases Qi8 hu with ⟨rfl,rfl⟩|⟨hne,hl⟩
 ·have:i<a.tmps.size:=by rw[h.size];simpa [Qw,Nat.blt_eq] using hd
  simp[Act.put,this]
 ·cases d with
  | none=>exact h.fr i u hl
  | some d =>
   have hne':d≠i:=fun e=>hne (e▸rfl)
   simp only[Act.put]
   rw[Array.getElem?_setIfInBounds_ne hne']
   exact h.fr i u hl

theorem dQ.ev {n:Nat} {F:ak} {a:Act} (h:dQ n F a) {x:Operand} {v:Value} (hx:ev F x=some v):a.eval x=v:=by
 cases x with
 | tmp t =>
  have:=h.fr t v hx
  simp[Act.eval,this]
 | const u=>simpa [Go.Proofs.YtbofgpenopcfaaaGreatDoor.ev,Act.eval] using hx
 | global g=>simpa [Go.Proofs.YtbofgpenopcfaaaGreatDoor.ev,Act.eval] using hx
 | func f=>simpa [Go.Proofs.YtbofgpenopcfaaaGreatDoor.ev,Act.eval] using hx

theorem dQ.wanted {n:Nat} {F:ak} {a:Act} (h:dQ n F a) {o:bT} {b:Bool} (hg:Qi F o.guard=some b):o.wanted a.tmps=b:=by
 unfold bT.wanted
 cases hgd:o.guard with
 | none=>rw[hgd]at hg;simpa [Qi] using hg
 | some g =>
  obtain⟨t,want⟩:=g
  rw[hgd]at hg
  cases t with
  | none=>simp only[Qi,Option.some.injEq]at hg;subst hg;simp[Qbq]
  | some t =>
   simp only[Qi]at hg
   cases hl:look F t with
   | none=>rw[hl]at hg;cases hg
   | some v =>
    rw[hl]at hg
    have:=h.fr t v hl
    unfold Qbq
    simp only[Option.bind_some,this]
    cases v<;>simp only[Option.some.injEq]at hg<;>subst hg<;>simp

def ZI (P:Program) (o:Op) (ρ:Operand→Value):Option (Obj × (Nat→Value)) :=
 match o with
 | .alloc t=>match (P.info? t).bind (·.zero)with
  | some z=>some (.cells z.cells t,fun b=>.pointer (some ⟨b,0,none⟩))
  | none=>none
 | .box t x=>some (.cells (ρ x).cells t,fun b=>.pointer (some ⟨b,0,none⟩))
 | .buildSlice t len parts => match P.underlying t with
  | some (.slice e) => match P.info? e with
   | some i => if len * i.size ≤ 2 ^ 24 then
     match (if len*i.size=0 then some #[] else i.zero.map (·.cells))with
     | some zero=>match Instr.fill (fun j=>some (j*i.size,i.size)) ((Array.range (len*i.size)).map (zero[· % zero.size]!)) ((parts.map fun(j,x)=>(j,ρ x)).toList)with
      | some cells=>some (.cells cells e,fun b=>.slice (some ⟨b,0,none⟩) len len)
      | none=>none
     | none=>none
    else none
   | none=>none
  | _=>none
 | .makeSlice t l c => match P.underlying t, ρ l, ρ c with
  | some (.slice e), .int .i64 (.ofNat n), .int .i64 (.ofNat m) => match P.info? e with
   | some i => if n ≤ m ∧ m * i.bytes ≤ 2 ^ 47 ∧ m < 2 ^ 63 then
     match (if m*i.size=0 then some #[] else i.zero.map (·.cells))with
     | some zero=>some (.cells ((Array.range (m*i.size)).map (zero[· % zero.size]!)) e,fun b=>.slice (some ⟨b,0,none⟩) n m)
     | none=>none
    else none
   | none=>none
  | _,_,_=>none
 | _=>none

theorem Q29 (n:Nat) (h:n<2 ^ 63):IntKind.i64.wrap (Int.ofNat n)=(n:Int):=by
 have:=Go.IntWalk.i64_in (n:Int) oq
 exact this

theorem Q07 {P:Program} {o:Oper} {ρ:Operand→Value} {obj:Obj} {mk:Nat→Value} (h:ZI P o.op ρ=some (obj,mk)) (w:World) :
  (execOp ρ o).run P w=.ok (.value (mk w.heap.size)) (w.alloc obj):=by
 obtain⟨dst,op,type,pos,after,guard⟩:=o
 have hal:∀ o:Obj,({ w with heap:=w.heap.push o }:World)=w.alloc o:=fun _=>rfl
 cases op<;>simp only[ZI]at h<;>try (cases h;done)
 case alloc t =>
  cases hi:P.info? t with
  | none=>rw[hi]at h;simp at h
  | some i =>
   rw[hi]at h
   cases hz:i.zero with
   | none=>simp[hz]at h
   | some z =>
    simp only[Option.bind_some,hz,Option.some.injEq,Prod.mk.injEq]at h
    obtain⟨rfl,rfl⟩:=h
    simp only[execOp,Instr.alloc,zeroValue,typeInfo,newVar,newRow]
    simp[hi,hz,hal]
 case box t x =>
  simp only[Option.some.injEq,Prod.mk.injEq]at h
  obtain⟨rfl,rfl⟩:=h
  simp only[execOp,Instr.box,newVar,newRow]
  simp[hal]
 case buildSlice t len parts =>
  cases ht:P.underlying t with
  | none=>rw[ht]at h;cases h
  | some d =>
   rw[ht]at h
   cases d<;>simp only[]at h<;>try (cases h;done)
   rename_i e
   cases hi:P.info? e with
   | none=>rw[hi]at h;cases h
   | some i =>
    rw[hi]at h
    simp only[]at h
    split at h
    ·rename_i hle
     have hle':¬(2 ^ 24<len*i.size):=by omega
     split at h
     ·rename_i zero hz0
      split at h
      ·rename_i cells hc
       simp only[Option.some.injEq,Prod.mk.injEq]at h
       obtain⟨rfl,rfl⟩:=h
       simp only[execOp,Instr.buildSlice,zeroValue,sizeOf,typeInfo,newRow,underlying]
       by_cases h0:len*i.size=0
       ·rw[if_pos h0]at hz0
        simp only[Option.some.injEq]at hz0
        subst hz0
        simp[ht,hi,h0,hal]at hc ⊢
        rw[hc]
        simp[hal]
       ·rw[if_neg h0]at hz0
        cases hz:i.zero with
        | none=>rw[hz]at hz0;cases hz0
        | some z =>
         rw[hz]at hz0
         simp only[Option.map_some,Option.some.injEq]at hz0
         subst hz0
         simp[ht,hi,h0,hz,hle']at hc ⊢
         rw[hc]
         simp[hal]
      ·cases h
     ·cases h
    ·cases h
 case makeSlice t l c =>
  split at h
  ·rename_i e n m ht hl hc
   cases hi:P.info? e with
   | none=>rw[hi]at h;cases h
   | some i =>
    rw[hi]at h
    simp only[]at h
    split at h
    ·rename_i hle
     obtain⟨hnm,hby,hm⟩:=hle
     have hwn:=Q29 n oq
     have hwm:=Q29 m oq
     split at h
     ·rename_i zero hz0
      simp only[Option.some.injEq,Prod.mk.injEq]at h
      obtain⟨rfl,rfl⟩:=h
      simp only[execOp,Instr.makeSlice,zeroValue,sizeOf,typeInfo,newRow,underlying,asInt,asIntOf,hl,hc]
      simp only[Sem.run_bind,run_program,Result.andThen_ok,ht,Sem.run_pure,hi,hwn,hwm]
      have hc1:(decide ((m:Int)<0) || decide ((i.bytes:Int)*(m:Int)>2 ^ 48))=false:=by
       simp only[Bool.or_eq_false_iff,decide_eq_false_iff_not]
       refine⟨by omega,?_⟩
       have:((m*i.bytes:Nat):Int)≤2 ^ 47:=by exact_mod_cast hby
       rw[Int.natCast_mul]at this
       rw[Int.mul_comm]
       omega
      have hc2:¬((n:Int)<0):=by omega
      have hc3:¬((n:Int)>(m:Int)):=by omega
      simp only[hc1,hc2,hc3,Bool.false_eq_true,false_or,or_self,if_false,Int.toNat_natCast]
      by_cases h0:m*i.size=0
      ·rw[if_pos h0]at hz0
       simp only[Option.some.injEq]at hz0
       subst hz0
       simp[h0,hal,hi]
      ·rw[if_neg h0]at hz0
       cases hz:i.zero with
       | none=>rw[hz]at hz0;cases hz0
       | some z =>
        rw[hz]at hz0
        simp only[Option.map_some,Option.some.injEq]at hz0
        subst hz0
        simp[h0,hz,hal,hi]
     ·cases h
    ·cases h
  ·cases h

def Q45 (P:Program):Op→Bool
 | .alloc t=>((P.info? t).bind (·.zero)).isSome
 | .buildSlice t len parts=>parts.all (fun p=>match p.2 with | .const _=>true|_=>false) && (ZI P (.buildSlice t len parts) (fun x=>match x with | .const v=>v|_=>undef)).isSome
 | _=>false

theorem Q44 {P:Program} {o:Op} (h:Q45 P o=true):∃ obj mk,∀ ρ:Operand→Value,(∀ v,ρ (.const v)=v)→ZI P o ρ=some (obj,mk):=by
 cases o<;>simp only[Q45]at h<;>try (cases h;done)
 case alloc t =>
  cases hz:(P.info? t).bind (·.zero)with
  | none=>rw[hz]at h;cases h
  | some z=>exact⟨.cells z.cells t,fun b=>.pointer (some ⟨b,0,none⟩),fun ρ _=>by simp only[ZI,hz]⟩
 case buildSlice t len parts =>
  simp only[Bool.and_eq_true]at h
  obtain⟨h1,h2⟩:=h
  obtain⟨⟨obj,mk⟩,h3⟩:=Option.isSome_iff_exists.1 h2
  refine⟨obj,mk,fun ρ hρ=>?_⟩
  rw[← h3]
  have hp:(parts.map fun(j,x)=>(j,ρ x))=(parts.map fun(j,x)=>(j,(fun x:Operand=>match x with | .const v=>v|_=>undef) x)):=by
   refine Array.map_congr_left fun p hp=>?_
   obtain⟨j,x⟩:=p
   have:=Array.all_eq_true_iff_forall_mem.1 h1 _ hp
   cases x<;>simp_all
  simp only[ZI,hp]

inductive Mode where
 | text
 | draw (Hs:aj) (live:Bool)

def Mode.src (m:Mode) (H:aj):aj :=
 match m with
 | .text=>H
 | .draw Hs _=>Hs

def Mode.live:Mode→Bool
 | .text=>true
 | .draw _ l=>l

def Src (c:Cx) (H:aj) (w:World):Prop:=Kp c.M c.w0 w∧aG H w

def keys (H:aj):List Nat:=H.map (·.1)

structure Step (c:Cx) (H:aj) (w w':World):Prop where
 size:w.heap.size≤w'.heap.size
 block:∀ k,k<w.heap.size→k∉keys H→k∉c.M→w'.heap[k]?=w.heap[k]?

def Mode.after (m m':Mode) (ns:Bool) (noAlloc:Bool) (w':World):Prop :=
 match m,m' with
 | .text,.text=>True
 | .draw Hs l,.draw Hs' l'=>Hs'=Hs∧(l'=true→l=true∧aG Hs w')∧(ns=true→l'=true)∧(l'=true∨noAlloc=true)
 | _,_=>False

def Zq (r:List bT):Bool:=r.all fun o=>match o.kind with | .alloc=>false|_=>true

def JL (c : Cx) (K : Act → World → Prop) : Mode → List bT → ak → aj → Prop
 | _,[],F,H=>∀ a w,St c F H a w→K a w
 | m, o :: r, F, H =>
  Qw c.n o.dst=true ∧
  ((Qi F o.guard = some false ∧ (o.kind = .ld → m.live = true) ∧ JL c K m r (dN F o.dst undef) H) ∨
   (Qi F o.guard = some true ∧
    match o.kind with
    | .bg=>∃ v,(∀ a w,dQ c.n F a→(execOp a.eval o.oper).run c.P w=.ok (.value v) w)∧JL c K m r (dN F o.dst v) H
    | .ld=>m.live=true∧∃ v,(∀ a w,dQ c.n F a→Src c (m.src H) w→(execOp a.eval o.oper).run c.P w=.ok (.value v) w)∧JL c K m r (dN F o.dst v) H
    | .alloc=>m.live=true∧∃ obj mk,(∀ a,dQ c.n F a→ZI c.P o.op a.eval=some (obj,mk))∧∀ b,b∉keys H→JL c K m r (dN F o.dst (mk b)) ((b,obj)::H)
    | .seq=>∀ a w,St c F H a w→(match m with | .text=>True | .draw Hs l=>l=true→aG Hs w)→o.oper.wp c.P a w (fun a' w' =>
        Step c H w w'∧∃ F' H' m',St c F' H' a' w'∧(∀ k∈keys H',k∈keys H∨k∈c.M∨w.heap.size≤k)∧m.after m' o.ns (Zq r) w'∧JL c K m' r F' H') (Only fun _ _=>False)))

theorem Qgn {P:Program} {o:Oper} {a:Act} {w:World} {K:Act→World→Prop} {Q Q':Exit→Act→World→Prop} (h:∀ e a w,Q e a w→Q' e a w) (hh:o.wp P a w K Q):o.wp P a w K Q':=by
 unfold Oper.wp at *
 generalize (execOp a.eval o).run P w=r at *
 cases r with
 | ok n w' =>
  cases n<;>simp only[Oper.upon]at hh ⊢ <;>
   first
    | exact hh
    | exact hh.elim
    | (refine Calls.mono hh (fun e w'' he=>?_);cases e<;>first|exact he|exact h _ _ _ he|(obtain⟨a',w',h'⟩:=he;exact⟨a',w',h _ _ _ h'⟩))
 | halt x w'=>cases x<;>simp only[Oper.upon]at hh ⊢ <;> first|exact h _ _ _ hh|exact hh.elim

section
variable {P:Program} {ops:Array Oper}

theorem Xc {c:Cx} {Q:Exit→Act→World→Prop} (hP:c.P=P):∀ (l:List (Oper × Kind)) (F:ak) (H:aj),
  JL c (Q .normal) .text (l.map fun p=>Qx ops p.2 false p.1) F H→∀ a w,St c F H a w→wpList P ops Q (l.map (·.1)) a w:=by
 subst hP
 intro l
 induction l with
 | nil=>intro F H h a w st;exact h a w st
 | cons p l ih =>
  obtain⟨o,k⟩:=p
  intro F H h a w st
  simp only[List.map_cons,JL]at h
  obtain⟨hd,h⟩:=h
  simp only[List.map_cons]
  have hd':Qw c.n o.dst=true:=hd
  unfold wpList
  rcases h with ⟨hg,_,h⟩|⟨hg,h⟩
  ·have:=st.fr.wanted hg
   rw[ZK]at this
   rw[this]
   simp only[Bool.false_eq_true,if_false]
   exact ih _ _ h _ _ ⟨st.fr.put undef hd',st.kp,st.hs,st.wr⟩
  ·have hw:=st.fr.wanted hg
   rw[ZK]at hw
   rw[hw,if_pos rfl]
   refine .inl ?_
   have hk:(Qx ops k false o).kind=k:=rfl
   rw[hk]at h
   cases hkd:k with
   | bg =>
    rw[hkd]at h
    obtain⟨v,hr,h⟩:=h
    have hr:=hr a w st.fr
    rw[X8]at hr
    unfold Oper.wp
    rw[hr]
    exact ih _ _ h _ _ ⟨st.fr.put v hd',st.kp,st.hs,st.wr⟩
   | ld =>
    rw[hkd]at h
    obtain⟨_,v,hr,h⟩:=h
    have hr:=hr a w st.fr ⟨st.kp,st.hs⟩
    rw[X8]at hr
    unfold Oper.wp
    rw[hr]
    exact ih _ _ h _ _ ⟨st.fr.put v hd',st.kp,st.hs,st.wr⟩
   | alloc =>
    rw[hkd]at h
    obtain⟨_,obj,mk,hr,h⟩:=h
    have hr:=hr a st.fr
    unfold Oper.wp
    rw[Q07 (o:=o) hr]
    refine ih _ _ (h _ st.hs.fresh) _ _ ⟨st.fr.put _ hd',(st.alloc obj).kp,(st.hs.alloc obj).cons (Q70 w obj) st.hs.fresh,fun p hp=>?_⟩
    rcases List.mem_cons.1 hp with rfl|hp
    ·exact .inl st.kp.size
    ·exact st.wr p hp
   | seq =>
    rw[hkd]at h
    have h:=h a w st trivial
    rw[Qcw]at h
    have h2:o.wp c.P a w (wpList c.P ops Q (l.map (·.1))) (Only fun _ _=>False):=Oper.wp_mono (fun a' w' h'=>by
     obtain⟨_,F',H',m',st',_,hm,hj⟩:=h'
     cases m' with
     | text=>exact ih _ _ hj _ _ st'
     | draw=>exact hm.elim) h
    exact Qgn (fun e a w h=>by cases e<;>exact h.elim) h2

end

section
variable {P:Program} {ops:Array Oper}

def ldAt (kd:Nat→Op→Kind) (ops:Array Oper) (i:Nat):Bool :=
 match ops[i]? with
 | some o=>(match kd i o.op with | .ld=>true|_=>false)
 | none=>false

def waits (ops:Array Oper) (j i:Nat):Bool :=
 match ops[j]? with
 | some o=>o.after.any fun e=>Region.binds .any e && e.on == i
 | none=>false

def nsOf (kd:Nat→Op→Kind) (ops:Array Oper) (j:Nat):Bool :=
 (List.range ops.size).any fun i=>i != j && (ldAt kd ops i && !waits ops j i)

def Q4p (P:Program) (kd:Nat→Op→Kind) (ops:Array Oper) (Q:Exit→Act→World→Prop) (S:World→Prop):Nat→Array Bool→Act→World→Prop
 | 0,listed,a,w=>Region.ready .any ops listed=[]∧Q .normal a w
 | fuel+1,listed,a,w =>
  (Region.ready .any ops listed=[]→Q .normal a w) ∧
  ∀ i∈Region.ready .any ops listed,wpOp P ops Q i (fun a' w'=>(w'=w∨(nsOf kd ops i=true→S w'))∧Q4p P kd ops Q S fuel (listed.setIfInBounds i true) a' w') a w

variable {kd:Nat→Op→Kind} {Q:Exit→Act→World→Prop} {S:World→Prop}

theorem Ws:∀ (fuel:Nat) (listed:Array Bool) (a:Act) (w:World),Q4p P kd ops Q S fuel listed a w→wpAny P .any ops Q fuel listed a w
 | 0,_,_,_,h=>h
 | fuel+1,_,_,_,h=>⟨h.1,fun i hi=>wpOp_mono (fun a' w' h'=>Ws fuel _ a' w' h'.2) (h.2 i hi)⟩

theorem Qlf {i j:Nat} (hl:ldAt kd ops i=true) (hij:i≠j) (hw:waits ops j i=false):nsOf kd ops j=true:=by
 unfold nsOf
 rw[List.any_eq_true]
 have hi:i<ops.size:=by
  unfold ldAt at hl
  split at hl
  ·rename_i o ho;exact(Array.getElem?_eq_some_iff.1 ho).1
  ·cases hl
 refine⟨i,List.mem_range.2 hi,?_⟩
 simp[hl,hw,hij]

theorem YE {i:Nat} {listed:Array Bool} (h:listed.getD i true=false):listed.getD i false=false:=by
 rcases Nat.lt_or_ge i listed.size with h'|h'
 ·simp[h']at h ⊢;exact h
 ·simp[Array.getElem?_eq_none h']at h

theorem Qeq {i j:Nat} {listed:Array Bool} (hiun:listed.getD i true=false) (hj:j∈Region.ready .any ops listed):waits ops j i=false:=by
 obtain⟨hjun,oj,hoj,hall⟩:=mem_ready.1 hj
 unfold waits
 simp only[hoj]
 rw[Bool.eq_false_iff]
 intro h
 obtain⟨e,he,hb⟩:=Array.any_eq_true'.1 h
 simp only[Bool.and_eq_true,beq_iff_eq]at hb
 have h1:=hall e he hb.1
 rw[hb.2,YE hiun]at h1
 cases h1

theorem Q72 {i:Nat} {oi:Oper} {v:Value} (hi:ops[i]?=some oi) (hsel:∀ (j:Nat) (o:Oper) cs b,ops[j]?=some o→o.op≠.select cs b)
  (hQ:∀ c a a' w,Q (.panic c) a w→Q (.panic c) a' w) (ld:Bool) (hld:ld=true→ldAt kd ops i=true) :
  ∀ (fuel:Nat) (listed:Array Bool) (a:Act) (w:World),
   (∀ j oj,ops[j]?=some oj→j≠i→listed.getD j true=false→(∀ e∈oj.after,Region.binds .any e=true→e.on≠i)→oi.apart ops oj=true) →
   i∈Region.ready .any ops listed→YieldsIf P ops (fun w=>ld=true→S w) oi v a→(ld=true→S w) →
   Q4p P kd ops Q S fuel (listed.setIfInBounds i true) (a.put oi.dst v) w→Q4p P kd ops Q S (fuel+1) listed a w:=by
 intro fuel
 induction fuel with
 | zero =>
  intro listed a w _ hr hy hS H
  refine⟨fun h=>(by rw[h]at hr;cases hr),fun j hj=>?_⟩
  by_cases hji:j=i
  ·subst hji;exact YieldsIf.wpOp hi hy hS ⟨.inl rfl,H⟩
  ·have:=ready_mono hj hji
   rw[H.1]at this
   cases this
 | succ fuel ih =>
  intro listed a w hfree hr hy hS H
  refine⟨fun h=>(by rw[h]at hr;cases hr),fun j hj=>?_⟩
  by_cases hji:j=i
  ·subst hji;exact YieldsIf.wpOp hi hy hS ⟨.inl rfl,H⟩
  ·have h1:=H.2 j (ready_mono hj hji)
   obtain⟨hjun,oj,hoj,hall⟩:=mem_ready.1 hj
   have hiun:=(mem_ready.1 hr).1
   have hnot:∀ e∈oj.after,Region.binds .any e=true→e.on≠i:=fun e he hb heq=>by
    have h1:=hall e he hb
    rw[heq,YE hiun]at h1
    cases h1
   have h2:=wpOp_putIf hoj (hfree j oj hoj hji hjun hnot) (fun cs b=>hsel i oi cs b hi) (fun cs b=>hsel j oj cs b hoj) (fun c a w h=>hQ c _ _ w h) hy h1
   have hfree':∀ k ok,ops[k]?=some ok→k≠i→(listed.setIfInBounds j true).getD k true=false →
     (∀ e∈ok.after,Region.binds .any e=true→e.on≠i)→oi.apart ops ok=true:=fun k ok hk hki hun hno=>by
    refine hfree k ok hk hki ?_ hno
    by_cases hjk:j=k
    ·subst hjk;exact hjun
    ·rw[getD_set_ne true hjk]at hun;exact hun
   have hnw:=Qeq hiun hj
   refine wpOp_mono (fun a' w' h3=>⟨h3.2.1,ih (listed.setIfInBounds j true) a' w' hfree' (ready_mono hr (Ne.symm hji)) h3.1 ?_ ?_⟩) h2
   ·intro hl
    rcases h3.2.1 with rfl|h4
    ·exact hS hl
    ·exact h4 (Qlf (hld hl) (Ne.symm hji) hnw)
   ·rw[Array.setIfInBounds_comm _ _ hji]
    exact h3.2.2

def iw (P:Program) (kd:Nat→Op→Kind) (ops:Array Oper) (i:Nat):Bool :=
 match ops[i]? with
 | some o=>Q45 P o.op && (match kd i o.op with | .alloc=>true|_=>false)
 | none=>false

def Qbw (P:Program) (kd:Nat→Op→Kind) (ops:Array Oper) (listed:Array Bool) (i:Nat):Array Bool :=
 (Array.range ops.size).map fun j=>listed.getD j false || (iw P kd ops j && j != i)

def apart2 (ops:Array Oper) (i j:Nat):Bool :=
 match ops[i]?,ops[j]? with
 | some oi,some oj=>oi.apart ops oj && oj.apart ops oi
 | _,_=>true

def Q1f (P:Program) (kd:Nat→Op→Kind) (ops:Array Oper) (listed:Array Bool) (i:Nat):Bool :=
 (List.range ops.size).all fun e=>e == i || listed.getD e true || !iw P kd ops e || apart2 ops i e

def Q0j (P:Program) (kd:Nat→Op→Kind) (ops:Array Oper):List Nat→Array Bool→Bool
 | [],listed=>(Region.ready .any ops listed).isEmpty
 | i :: r, listed =>
  (match ops[i]? with
   | none=>false
   | some o => (Region.ready .any ops listed).contains i && (match kd i o.op with
     | .bg | .ld=>Region.free .any ops listed i
     | _=>Region.ready .any ops (Qbw P kd ops listed i) == [i] && Q1f P kd ops listed i)) &&
  Q0j P kd ops r (listed.setIfInBounds i true)

def Ql (kd:Nat→Op→Kind) (ops:Array Oper) (tail:Nat):List Nat→List bT
 | []=>[]
 | i::r=>match ops[i]? with
  | some o=>Qx ops (kd i o.op) (Nat.blt tail (r.length+1)) o::Ql kd ops tail r
  | none=>Ql kd ops tail r

def Q9r (kd:Nat→Op→Kind) (ops:Array Oper) (tail:Nat):List Nat→Bool
 | []=>true
 | i::r=>(Nat.blt tail (r.length+1) || !nsOf kd ops i) && Q9r kd ops tail r

def Wq (P:Program) (kd:Nat→Op→Kind) (ops:Array Oper) (order:List Nat) (tail:Nat):Bool :=
 Region.noSelect ops && (Q9r kd ops tail order && ((List.range ops.size).all (fun j=>order.contains j) && (order.length == ops.size && (Q0j P kd ops order (Array.replicate ops.size false) &&
  (List.range ops.size).all (fun i=>!iw P kd ops i || Q1f P kd ops (Array.replicate ops.size false) i)))))

theorem Y8:∀ (r:List Nat) (listed:Array Bool),Q0j P kd ops r listed=true→∀ j∈r,listed.getD j true=false
 | [],_,_,j,hj=>by cases hj
 | i :: r, listed, h, j, hj => by
  simp only[Q0j,Bool.and_eq_true]at h
  obtain⟨h1,h2⟩:=h
  cases ho:ops[i]? with
  | none=>rw[ho]at h1;cases h1
  | some o =>
   rw[ho]at h1
   simp only[Bool.and_eq_true]at h1
   have hr:i∈Region.ready .any ops listed:=by simpa using h1.1
   rcases List.mem_cons.1 hj with rfl|hj
   ·exact(mem_ready.1 hr).1
   ·have:=Y8 r _ h2 j hj
    by_cases hij:i=j
    ·subst hij;exact(mem_ready.1 hr).1
    ·rwa [getD_set_ne true hij]at this

def constρ:Operand→Value
 | .const v=>v
 | _=>undef

def valE (P:Program) (ops:Array Oper) (e:Nat):Option Nat→Value
 | none=>undef
 | some b=>match (ops[e]?).bind fun o=>ZI P o.op constρ with
  | some (_,mk)=>mk b
  | none=>undef

abbrev Early:=Nat→Option (Option Nat)

structure Rel (P:Program) (ops:Array Oper) (E:Early) (ac a:Act):Prop where
 defers:a.defers=ac.defers
 size:a.tmps.size=ac.tmps.size
 hit:∀ e ob o d,E e=some ob→ops[e]?=some o→o.dst=some d→d<ac.tmps.size→a.tmps[d]?=some (valE P ops e ob)
 miss:∀ s,(∀ e ob o,E e=some ob→ops[e]?=some o→o.dst≠some s)→a.tmps[s]?=ac.tmps[s]?

theorem Rel.put {E:Early} {ac a:Act} (h:Rel P ops E ac a) {d:Option Tmp} (v:Value) (hd:∀ e ob o,E e=some ob→ops[e]?=some o→∀ s,d=some s→o.dst≠some s):Rel P ops E (ac.put d v) (a.put d v):=by
 cases d with
 | none=>exact h
 | some d =>
  refine⟨h.defers,by simp[Act.put,h.size],fun e ob o d' he ho hd' hlt=>?_,fun s hs=>?_⟩
  ·have hne:d≠d':=fun e'=>hd e ob o he ho d rfl (e'▸hd')
   simp only[Act.put]at hlt ⊢
   rw[Array.getElem?_setIfInBounds_ne hne]
   exact h.hit e ob o d' he ho hd' (by simpa using hlt)
  ·simp only[Act.put]
   by_cases hds:d=s
   ·subst hds
    simp only[Array.getElem?_setIfInBounds_self,h.size]
   ·rw[Array.getElem?_setIfInBounds_ne hds,Array.getElem?_setIfInBounds_ne hds]
    exact h.miss s hs

theorem Rel.eval {E:Early} {ac a:Act} (h:Rel P ops E ac a) {x:Operand} (hx:∀ e ob o,E e=some ob→ops[e]?=some o→∀ s,o.dst=some s→x≠.tmp s):a.eval x=ac.eval x:=by
 cases x with
 | tmp t =>
  have:=h.miss t (fun e ob o he ho hd=>hx e ob o he ho t hd rfl)
  simp[Act.eval,this]
 | _=>rfl

def Clear (ops:Array Oper) (E:Early) (o:Oper):Prop:=∀ e ob oe,E e=some ob→ops[e]?=some oe→oe.apart ops o=true

theorem Rel.exec {E:Early} {ac a:Act} (h:Rel P ops E ac a) {o:Oper} (hs:∀ cs b,o.op≠.select cs b) (hc:Clear ops E o):execOp a.eval o=execOp ac.eval o :=
 execOp_congr o hs fun x hx=>h.eval fun e ob oe he ho s hd hxs=>by
  have:=(Oper.apart_spec (hc e ob oe he ho)).1 s hd
  subst hxs
  exact this (List.mem_append_left _ (List.mem_filterMap.2 ⟨.tmp s,by simpa using hx,rfl⟩))

theorem Rel.wanted {E:Early} {ac a:Act} (h:Rel P ops E ac a) {o:Oper} (hc:Clear ops E o):Region.wanted o (yielded ops a.tmps)=Region.wanted o (yielded ops ac.tmps):=by
 unfold Region.wanted
 cases hg:o.guard with
 | none=>rfl
 | some gw =>
  obtain⟨g,want⟩:=gw
  have hy:yielded ops a.tmps g=yielded ops ac.tmps g:=by
   unfold yielded
   cases ht:(ops[g]?).bind (·.dst)with
   | none=>rfl
   | some t =>
    have hm:=h.miss t (fun e ob oe he ho hd=>by
     have:=(Oper.apart_spec (hc e ob oe he ho)).1 t hd
     exact this (by simp[Oper.looksAt,hg,ht]))
    simp[hm]
  simp only[hy]

theorem Rel.wp {E:Early} {ac a:Act} (h:Rel P ops E ac a) {o:Oper} (hs:∀ cs b,o.op≠.select cs b) (hc:Clear ops E o) {w:World} {K K':Act→World→Prop} {Q Q':Exit→Act→World→Prop}
  (hk:∀ a1 a2 w',(∃ v,a1.tmps=(ac.put o.dst v).tmps)→Rel P ops E a1 a2→K a1 w'→K' a2 w') (hq:∀ e x y,¬Q e x y) (hh:o.wp P ac w K Q):o.wp P a w K' Q':=by
 have hp:∀ (a1 a2:Act) (v:Value),Rel P ops E a1 a2→Rel P ops E (a1.put o.dst v) (a2.put o.dst v):=fun a1 a2 v hr =>
  hr.put v fun e ob oe he ho s hd hde=>(Oper.apart_spec (hc e ob oe he ho)).2.1 s hde (by rw[hd])
 unfold Oper.wp at *
 rw[h.exec hs hc]
 generalize (execOp ac.eval o).run P w=r at *
 cases r with
 | ok n w' =>
  have ht:∀ (d:List Deferred) (v:Value),((({ ac with defers:=d }:Act).put o.dst v).tmps=(ac.put o.dst v).tmps):=fun d v=>by cases o.dst<;>rfl
  cases n<;>simp only[Oper.upon]at hh ⊢ <;>
   first
    | exact hk _ _ _ ⟨_,rfl⟩ (hp _ _ _ h) hh
    | (rename_i d;exact hk _ _ _ ⟨_,ht (d::ac.defers) undef⟩ (hp { ac with defers:=d::ac.defers } { a with defers:=d::a.defers } undef ⟨by simp[h.defers],h.size,h.hit,h.miss⟩) hh)
    | exact hh.elim
    | (refine Calls.mono hh (fun e w'' he=>?_);cases e<;>first|exact hk _ _ _ ⟨_,rfl⟩ (hp _ _ _ h) he|exact(hq _ _ _ he).elim|(obtain⟨a',w',h'⟩:=he;exact(hq _ _ _ h').elim))
    | exact Rows.mono hh (fun _ _ he=>hk _ _ _ ⟨_,rfl⟩ (hp _ _ _ h) he)
 | halt x w'=>cases x<;>simp only[Oper.upon]at hh ⊢ <;> first|exact hh.elim|exact(hq _ _ _ hh).elim

structure EOk (c:Cx) (kd:Nat→Op→Kind) (ops:Array Oper) (lc listed:Array Bool) (H:aj) (ac:Act) (w:World) (E:Early):Prop where
 iw:∀ e ob,E e=some ob→iw c.P kd ops e=true
 un:∀ e ob,E e=some ob→lc.getD e true=false
 closed:∀ e ob o,E e=some ob→ops[e]?=some o→∀ x∈o.after,Region.binds .any x=true→listed.getD x.on false=true
 wanted:∀ e ob o,E e=some ob→ops[e]?=some o→Region.wanted o (yielded ops ac.tmps)=ob.isSome
 blk:∀ e b o,E e=some (some b)→ops[e]?=some o→∀ obj mk,ZI c.P o.op constρ=some (obj,mk)→w.heap[b]?=some obj
 fresh:∀ e b,E e=some (some b)→b∉keys H∧c.w0.heap.size≤b∧b<w.heap.size
 inj:∀ e e' b,E e=some (some b)→E e'=some (some b)→e=e'

theorem XS {i:Nat} (h:iw P kd ops i=true):∃ o,ops[i]?=some o∧kd i o.op=.alloc∧∃ obj mk,∀ ρ:Operand→Value,(∀ v,ρ (.const v)=v)→ZI P o.op ρ=some (obj,mk):=by
 unfold iw at h
 split at h
 ·rename_i o ho
  simp only[Bool.and_eq_true]at h
  refine⟨o,ho,?_,Q44 h.1⟩
  have:=h.2
  split at this
  ·assumption
  ·cases this
 ·cases h

theorem Q0k {i j:Nat} {oi oj:Oper} (hi:ops[i]?=some oi) (hj:ops[j]?=some oj) (h:apart2 ops i j=true):oi.apart ops oj=true∧oj.apart ops oi=true:=by
 unfold apart2 at h
 simpa [hi,hj] using h

theorem Q4h {listed:Array Bool} {i e:Nat} (h:Q1f P kd ops listed i=true) (hne:e≠i) (hun:listed.getD e true=false) (hu:iw P kd ops e=true):apart2 ops i e=true:=by
 unfold Q1f at h
 have he:e<ops.size:=by
  obtain⟨o,ho,_⟩:=XS hu
  exact(Array.getElem?_eq_some_iff.1 ho).1
 have:=List.all_eq_true.1 h e (List.mem_range.2 he)
 simpa [hne,hun,hu] using this

theorem Q5a {lc:Array Bool} {i j:Nat} (d:Bool) (hj:j<ops.size):(Qbw P kd ops lc i).getD j d=(lc.getD j false || (iw P kd ops j && j != i)):=by
 unfold Qbw
 simp[hj]

theorem Qc3 {lc listed:Array Bool} {E:Early} {i j:Nat} (hsz:listed.size=ops.size)
  (hl:∀ j,j<ops.size→listed.getD j false=(lc.getD j false || (E j).isSome)) (hE:∀ e ob,E e=some ob→iw P kd ops e=true) (hi:E i=none)
  (hr:Region.ready .any ops (Qbw P kd ops lc i)=[i]) (hj:j∈Region.ready .any ops listed):j=i∨iw P kd ops j=true:=by
 by_cases hji:j=i
 ·exact .inl hji
 by_cases hu:iw P kd ops j=true
 ·exact .inr hu
 refine .inl ?_
 obtain⟨hun,o,ho,hall⟩:=mem_ready.1 hj
 have hjlt:j<ops.size:=(Array.getElem?_eq_some_iff.1 ho).1
 have:j∈Region.ready .any ops (Qbw P kd ops lc i):=by
  refine mem_ready.2 ⟨?_,o,ho,fun e he hb=>?_⟩
  ·rw[Q5a _ hjlt]
   have:=hl j hjlt
   rw[YE hun]at this
   simp only[Bool.false_eq,Bool.or_eq_false_iff]at this
   simp[this.1,hu]
  ·have h1:=hall e he hb
   have hlt:e.on<ops.size:=by
    rcases Nat.lt_or_ge e.on listed.size with h|h
    ·omega
    ·rw[show listed.getD e.on false=false from by simp[Array.getElem?_eq_none h]]at h1;cases h1
   rw[Q5a _ hlt]
   rw[hl _ hlt]at h1
   simp only[Bool.or_eq_true]at h1 ⊢
   rcases h1 with h1|h1
   ·exact .inl h1
   ·obtain⟨ob,hob⟩:=Option.isSome_iff_exists.1 h1
    refine .inr ?_
    rw[hE _ _ hob]
    simp only[Bool.true_and,bne_iff_ne,ne_eq]
    intro h;rw[h]at hob;rw[hi]at hob;cases hob
 rw[hr]at this
 simpa using this

structure Sim (c:Cx) (kd:Nat→Op→Kind) (ops:Array Oper) (Hs:aj) (live:Bool) (r:List Nat) (lc listed:Array Bool) (H:aj) (F:ak) (E:Early) (ac a:Act) (w:World) (noA:Bool):Prop where
 st:St c F H ac w
 hs:live=true→aG Hs w
 rel:Rel c.P ops E ac a
 e:EOk c kd ops lc listed H ac w E
 lsz:listed.size=ops.size
 lcz:lc.size=ops.size
 l:∀ j,j<ops.size→listed.getD j false=(lc.getD j false || (E j).isSome)
 all:∀ j,j<ops.size→lc.getD j true=false→j∈r
 lv:live=true∨noA=true

theorem Q0f {l:Array Bool} {i:Nat} (h:i<l.size) (d d':Bool):l.getD i d=l.getD i d':=by simp[h]

theorem XQ {tail:Nat}:∀ {r:List Nat},Zq (Ql kd ops tail r)=true→∀ j∈r,iw P kd ops j=false
 | [],_,_,hj=>by cases hj
 | i :: r, h, j, hj => by
  have h':Zq (Ql kd ops tail r)=true∧(∀ o,ops[i]?=some o→kd i o.op≠.alloc):=by
   unfold Ql at h
   cases ho:ops[i]? with
   | none=>rw[ho]at h;exact⟨h,fun o h=>by cases h⟩
   | some o =>
    rw[ho]at h
    simp only[Zq,List.all_cons,Bool.and_eq_true]at h
    refine⟨h.2,fun o' ho' hk=>?_⟩
    cases ho'
    have:=h.1
    simp only[Qx,hk]at this
    cases this
  rcases List.mem_cons.1 hj with rfl|hj
  ·cases hu:iw P kd ops j with
   | false=>rfl
   | true =>
    obtain⟨o,ho,hk,_⟩:=XS hu
    exact absurd hk (h'.2 o ho)
  ·exact XQ h'.1 j hj

theorem Qe0 {listed:Array Bool} (hsz:listed.size=ops.size) (h:∀ j,j<ops.size→listed.getD j false=true):Region.ready .any ops listed=[]:=by
 rw[List.eq_nil_iff_forall_not_mem]
 intro j hj
 obtain⟨hun,o,ho,_⟩:=mem_ready.1 hj
 have hlt:j<ops.size:=(Array.getElem?_eq_some_iff.1 ho).1
 rw[Q0f oq true false,h j hlt]at hun
 cases hun

theorem Q2z {listed:Array Bool} {i j:Nat} (hi:i<listed.size):(listed.setIfInBounds i true).getD j false=(listed.getD j false || j == i):=by
 by_cases h:i=j
 ·subst h;simp[hi]
 ·rw[getD_set_ne false h]
  have:(j == i)=false:=by simp;omega
  simp[this]

end

section
variable {c:Cx} {ops:Array Oper} {kd:Nat→Op→Kind} {Q:Exit→Act→World→Prop} {K:Act→World→Prop} {Hs:aj} {tail:Nat}

theorem Q27 {x y:Oper} (h:x.apart ops y=true):y.apart ops x=true:=by
 obtain⟨h1,h2,h3⟩:=Oper.apart_spec h
 unfold Oper.apart
 cases hx:x.dst with
 | none=>cases hy:y.dst with
  | none=>simp
  | some e=>simpa [hx] using h3 e hy
 | some d => cases hy : y.dst with
  | none=>simpa using h1 d hx
  | some e =>
   have a1:=h1 d hx
   have a2:=h2 d hx
   have a3:=h3 e hy
   rw[hy]at a2
   simp only[ne_eq,Option.some.injEq]at a2
   simp only[Bool.and_eq_true,Bool.not_eq_true',List.contains_eq_mem,decide_eq_false_iff_not,bne_iff_ne,ne_eq,Option.some.injEq]
   exact⟨⟨a3,fun e'=>a2 e'.symm⟩,a1⟩

theorem Q46 {p q:Nat→Bool}:∀ {l:List Nat} {j:Nat},(∀ x,p x=true→q x=true)→j∈l→q j=true→p j=false→l.countP p+1≤l.countP q
 | [],_,_,hj,_,_=>by cases hj
 | x :: l, j, hpq, hj, hq, hp => by
  have mono:l.countP p≤l.countP q:=List.countP_mono_left fun x _ h=>hpq x h
  rcases List.mem_cons.1 hj with rfl|hj
  ·simp only[List.countP_cons,hq,hp,if_true,Bool.false_eq_true,if_false]
   omega
  ·have:=Q46 hpq hj hq hp
   simp only[List.countP_cons]
   have hx:=hpq x
   cases hpx:p x<;>cases hqx:q x<;>simp_all<;>omega

theorem Rel.nil {E:Early} {ac a:Act} (h:Rel c.P ops E ac a) (hE:∀ e,E e=none):a=ac:=by
 have h1:a.tmps=ac.tmps:=by
  apply Array.ext_getElem?
  intro s
  exact h.miss s fun e ob o he _=>by rw[hE e]at he;cases he
 obtain⟨t,d⟩:=a
 obtain⟨t',d'⟩:=ac
 simp only at h1
 have:=h.defers
 simp only at this
 rw[h1,this]

def Q0i (E:Early) (i:Nat):Early:=fun j=>if j=i then none else E j
def fM (E:Early) (i:Nat) (ob:Option Nat):Early:=fun j=>if j=i then some ob else E j

theorem Rel.consume {E:Early} {ac a:Act} (h:Rel c.P ops E ac a) {i:Nat} {ob:Option Nat} {o:Oper} (hi:E i=some ob) (ho:ops[i]?=some o)
  (hap:∀ e ob' oe,E e=some ob'→e≠i→ops[e]?=some oe→oe.apart ops o=true):Rel c.P ops (Q0i E i) (ac.put o.dst (valE c.P ops i ob)) a:=by
 refine⟨by rw[h.defers];cases o.dst<;>rfl,by rw[h.size];cases o.dst<;>simp[Act.put],fun e ob' oe d he hoe hd hlt=>?_,fun s hs=>?_⟩
 ·have hne:e≠i:=fun e'=>by subst e';simp[Q0i]at he
  have he':E e=some ob':=by simpa [Q0i,hne] using he
  exact h.hit e ob' oe d he' hoe hd (by cases hod:o.dst<;>simpa [Act.put,hod] using hlt)
 ·by_cases hos:o.dst=some s
  ·rw[hos]
   simp only[Act.put]
   by_cases hlt:s<ac.tmps.size
   ·rw[h.hit i ob o s hi ho hos hlt];simp[hlt]
   ·have h0:ac.tmps.size≤s:=Nat.le_of_not_lt hlt
    have h1:a.tmps.size≤s:=V0 (Nat.le_of_eq h.size) h0
    rw[Array.getElem?_eq_none h1,Array.getElem?_eq_none (by simpa using h0)]
  ·have hm:=h.miss s fun e ob' oe he hoe hd=>by
    by_cases hne:e=i
    ·subst hne;rw[hoe]at ho;cases ho;exact hos hd
    ·exact hs e ob' oe (by simpa [Q0i,hne] using he) hoe hd
   rw[hm]
   cases hod:o.dst with
   | none=>rfl
   | some d =>
    have hds:d≠s:=fun e=>hos (by rw[hod,e])
    simp only[Act.put]
    rw[Array.getElem?_setIfInBounds_ne hds]

theorem Rel.add {E:Early} {ac a:Act} (h:Rel c.P ops E ac a) {i:Nat} (ob:Option Nat) {o:Oper} (ho:ops[i]?=some o)
  (hap:∀ e ob' oe,E e=some ob'→e≠i→ops[e]?=some oe→oe.apart ops o=true):Rel c.P ops (fM E i ob) ac (a.put o.dst (valE c.P ops i ob)):=by
 refine⟨by rw[← h.defers];cases o.dst<;>rfl,by rw[← h.size];cases o.dst<;>simp[Act.put],fun e ob' oe d he hoe hd hlt=>?_,fun s hs=>?_⟩
 ·by_cases hne:e=i
  ·subst hne
   rw[ho]at hoe;cases hoe
   simp only[fM,if_true,Option.some.injEq]at he
   subst he
   rw[hd]
   simp only[Act.put]
   have:d<a.tmps.size:=by rw[h.size];exact hlt
   simp[this]
  ·have he':E e=some ob':=by simpa [fM,hne] using he
   have hh:=h.hit e ob' oe d he' hoe hd hlt
   have hdd:=(Oper.apart_spec (hap e ob' oe he' hne hoe)).2.1 d hd
   cases hod:o.dst with
   | none=>exact hh
   | some d' =>
    have hne':d'≠d:=fun e=>hdd (by rw[hod,e])
    simp only[Act.put]
    rw[Array.getElem?_setIfInBounds_ne hne']
    exact hh
 ·have hos:o.dst≠some s:=hs i ob o (by simp[fM]) ho
  have hm:=h.miss s fun e ob' oe he hoe hd=>by
   by_cases hne:e=i
   ·subst hne;rw[hoe]at ho;cases ho;exact hos hd
   ·exact hs e ob' oe (by simpa [fM,hne] using he) hoe hd
  cases hod:o.dst with
  | none=>exact hm
  | some d =>
   have hds:d≠s:=fun e=>hos (by rw[hod,e])
   simp only[Act.put]
   rw[Array.getElem?_setIfInBounds_ne hds]
   exact hm

theorem Q4s {P:Program} {i b:Nat} {o:Oper} {obj:Obj} {mk:Nat→Value} (ho:ops[i]?=some o) (h:∀ ρ:Operand→Value,(∀ v,ρ (.const v)=v)→ZI P o.op ρ=some (obj,mk)):valE P ops i (some b)=mk b:=by
 unfold valE
 simp[ho,h constρ (fun _=>rfl)]

theorem sim (hsel:Region.noSelect ops=true) (hUU:∀ i,i<ops.size→iw c.P kd ops i=true→Q1f c.P kd ops (Array.replicate ops.size false) i=true)
  (hK:∀ a w,K a w→Q .normal a w) (hQ:∀ ch a a' w,Q (.panic ch) a w→Q (.panic ch) a' w) :
  ∀ (r:List Nat) (lc:Array Bool),Q0j c.P kd ops r lc=true→Q9r kd ops tail r=true →
   ∀ (fuel:Nat) (live:Bool) (listed:Array Bool) (H:aj) (F:ak) (E:Early) (ac a:Act) (w:World),
    JL c K (.draw Hs live) (Ql kd ops tail r) F H→Sim c kd ops Hs live r lc listed H F E ac a w (Zq (Ql kd ops tail r)) →
    r.countP (fun j=>(E j).isNone)≤fuel→Q4p c.P kd ops Q (Src c Hs) fuel listed a w:=by
 have hselS:=Region.noSelect_spec hsel
 have hUA:∀ i e,iw c.P kd ops i=true→iw c.P kd ops e=true→e≠i→apart2 ops i e=true:=fun i e hi he hne=>by
  obtain⟨o,ho,_⟩:=XS hi
  obtain⟨oe,hoe,_⟩:=XS he
  have hil:=(Array.getElem?_eq_some_iff.1 ho).1
  have hel:=(Array.getElem?_eq_some_iff.1 hoe).1
  exact Q4h (hUU i hil hi) hne (by simp[hel]) he
 intro r
 induction r with
 | nil =>
  intro lc hc _ fuel live listed H F E ac a w hj hs hf
  have hE:∀ e,E e=none:=fun e=>by
   cases he:E e with
   | none=>rfl
   | some ob =>
    obtain⟨o,ho,_⟩:=XS (hs.e.iw e ob he)
    have:=hs.all e (Array.getElem?_eq_some_iff.1 ho).1 (hs.e.un e ob he)
    cases this
  have hlc:∀ j,j<ops.size→listed.getD j false=true:=fun j hj=>by
   rw[hs.l j hj]
   cases h:lc.getD j true with
   | false=>exact absurd (hs.all j hj h) aA
   | true=>rw[Q0f (by rw[hs.lcz];exact hj) true false]at h;simp[h]
  have hr:=Qe0 hs.lsz hlc
  obtain rfl:=hs.rel.nil hE
  have hq:=hK _ _ (hj a w hs.st)
  cases fuel with
  | zero=>exact⟨hr,hq⟩
  | succ f=>exact⟨fun _=>hq,fun i hi=>by rw[hr]at hi;cases hi⟩
 | cons i r ihr =>
  intro lc hc ht
  have hnr:i∉r:=fun hm=>by
   have hc':=hc
   simp only[Q0j,Bool.and_eq_true]at hc'
   have h1:=Y8 r _ hc'.2 i hm
   have h2:=Y8 _ _ hc i aA
   have hlt:i<lc.size:=by
    rcases Nat.lt_or_ge i lc.size with h|h
    ·exact h
    ·simp[Array.getElem?_eq_none h]at h2
   simp[hlt]at h1
  have hiun:=Y8 _ _ hc i aA
  simp only[Q0j,Bool.and_eq_true]at hc
  obtain⟨hc1,hc2⟩:=hc
  simp only[Q9r,Bool.and_eq_true]at ht
  obtain⟨ht1,ht2⟩:=ht
  cases ho:ops[i]? with
  | none=>rw[ho]at hc1;cases hc1
  | some o =>
  rw[ho]at hc1
  simp only[Bool.and_eq_true]at hc1
  obtain⟨hrdy,hc1⟩:=hc1
  have hrdy:i∈Region.ready .any ops lc:=by simpa using hrdy
  have hilt:i<ops.size:=(Array.getElem?_eq_some_iff.1 ho).1
  have hso:Ql kd ops tail (i::r)=Qx ops (kd i o.op) (Nat.blt tail (r.length+1)) o::Ql kd ops tail r:=by simp only[Ql,ho]
  have ih:=ihr (lc.setIfInBounds i true) hc2 ht2
  generalize hns:Nat.blt tail (r.length+1)=ns at hso ht1
  have hnsS:nsOf kd ops i=true→ns=true:=fun h=>by
   rw[h]at ht1
   simpa using ht1
  have step_l:∀ {live listed H F E ac a w noA},Sim c kd ops Hs live (i::r) lc listed H F E ac a w noA→E i=none →
    ∀ j,j<ops.size→(listed.setIfInBounds i true).getD j false=((lc.setIfInBounds i true).getD j false || (E j).isSome):=by
   intro live listed H F E ac a w noA hs _ j hj
   rw[Q2z (by rw[hs.lsz];exact hilt),Q2z (by rw[hs.lcz];exact hilt),hs.l j hj]
   cases lc.getD j false<;>cases (E j).isSome<;>simp
  have step_all:∀ {live listed H F E ac a w noA},Sim c kd ops Hs live (i::r) lc listed H F E ac a w noA →
    ∀ j,j<ops.size→(lc.setIfInBounds i true).getD j true=false→j∈r:=by
   intro live listed H F E ac a w noA hs j hj h
   have hji:i≠j:=fun e=>by
    subst e
    have:i<lc.size:=by rw[hs.lcz];exact hilt
    simp[this]at h
   rw[getD_set_ne true hji]at h
   rcases List.mem_cons.1 (hs.all j hj h)with rfl|h'
   ·exact absurd rfl hji
   ·exact h'
  have step_un:∀ {E:Early} (_:E i=none) {e ob},E e=some ob→lc.getD e true=false→(lc.setIfInBounds i true).getD e true=false:=by
   intro E hEi e ob he h
   have:i≠e:=fun e'=>by subst e';rw[hEi]at he;cases he
   rw[getD_set_ne true this];exact h
  have lv_next:∀ {live:Bool},(live=true∨Zq (Ql kd ops tail (i::r))=true)→(live=true∨Zq (Ql kd ops tail r)=true):=by
   intro live h
   rcases h with h|h
   ·exact .inl h
   refine .inr ?_
   rw[hso]at h
   simp only[Zq,List.all_cons,Bool.and_eq_true]at h
   exact h.2
  intro fuel live listed H F E ac a w hj hs hf
  have hjl:=hj
  rw[hso]at hjl
  simp only[JL]at hjl
  obtain⟨hd,hjl⟩:=hjl
  have hd:Qw c.n o.dst=true:=hd
  have hkind:(Qx ops (kd i o.op) ns o).kind=kd i o.op:=rfl
  rw[hkind]at hjl
  have hdst:(Qx ops (kd i o.op) ns o).dst=o.dst:=rfl
  rw[hdst]at hjl
  cases hEi:E i with
  | some ob =>
   obtain⟨o',ho',hk,obj,mk,hconst⟩:=XS (hs.e.iw i ob hEi)
   rw[ho]at ho';cases ho'
   rw[hk]at hjl
   have hlive:live=true:=by
    rcases hs.lv with h|h
    ·exact h
    ·have:=XQ (P:=c.P) h i aA
     rw[hs.e.iw i ob hEi]at this;cases this
   have hap:∀ e ob' oe,E e=some ob'→e≠i→ops[e]?=some oe→oe.apart ops o=true:=fun e ob' oe he hne hoe =>
    (Q0k ho hoe (hUA i e (hs.e.iw i ob hEi) (hs.e.iw e ob' he) hne)).2
   have hw:=hs.e.wanted i ob o hEi ho
   have hrel:=hs.rel.consume hEi ho hap
   have hlt:i<lc.size:=by rw[hs.lcz];exact hilt
   have iP:∀ (H':aj) (F':ak),St c F' H' (ac.put o.dst (valE c.P ops i ob)) w →
     (∀ e b,E e=some (some b)→e≠i→b∉keys H') →
     Sim c kd ops Hs live r (lc.setIfInBounds i true) listed H' F' (Q0i E i) (ac.put o.dst (valE c.P ops i ob)) a w (Zq (Ql kd ops tail r)):=by
    intro H' F' st' hfr
    have hdrop:∀ e ob',Q0i E i e=some ob'→e≠i∧E e=some ob':=fun e ob' he=>by
     by_cases hne:e=i
     ·subst hne;simp[Q0i]at he
     ·exact⟨hne,by simpa [Q0i,hne] using he⟩
    refine⟨st',hs.hs,hrel,⟨fun e ob' he=>hs.e.iw e ob' (hdrop e ob' he).2,fun e ob' he=>?_,fun e ob' oe he hoe=>hs.e.closed e ob' oe (hdrop e ob' he).2 hoe,fun e ob' oe he hoe=>?_,
     fun e b oe he hoe=>hs.e.blk e b oe (hdrop e _ he).2 hoe,fun e b he=>?_,fun e e' b he he'=>hs.e.inj e e' b (hdrop e _ he).2 (hdrop e' _ he').2⟩,hs.lsz,by simp[hs.lcz],fun j hj=>?_,step_all hs,lv_next hs.lv⟩
    ·obtain⟨hne,he'⟩:=hdrop e ob' he
     rw[getD_set_ne true (Ne.symm hne)]
     exact hs.e.un e ob' he'
    ·obtain⟨hne,he'⟩:=hdrop e ob' he
     rw[wanted_put oe ac o.dst _ (Oper.apart_spec (Q27 (hap e ob' oe he' hne hoe))).1]
     exact hs.e.wanted e ob' oe he' hoe
    ·obtain⟨hne,he'⟩:=hdrop e _ he
     exact⟨hfr e b he' hne,(hs.e.fresh e b he').2⟩
    ·rw[Q2z hlt,hs.l j hj]
     by_cases hji:j=i
     ·subst hji;simp[hEi,Q0i]
     ·have:(j == i)=false:=by simpa using hji
      simp[Q0i,hji,this]
   have hcnt:r.countP (fun j=>(Q0i E i j).isNone)≤fuel:=by
    have h1:r.countP (fun j=>(Q0i E i j).isNone)=r.countP (fun j=>(E j).isNone):=by
     apply List.countP_congr
     intro x hx
     have:x≠i:=fun e=>hnr (e▸hx)
     simp[Q0i,this]
    rw[h1]
    simpa [List.countP_cons,hEi] using hf
   cases ob with
   | none =>
    rcases hjl with ⟨hg,_,hjl⟩|⟨hg,_⟩
    ·exact ih fuel live listed H _ (Q0i E i) _ a w hjl (iP H _ ⟨hs.st.fr.put undef hd,hs.st.kp,hs.st.hs,hs.st.wr⟩ fun e b he _=>(hs.e.fresh e b he).1) hcnt
    ·have:=hs.st.fr.wanted hg
     rw[ZK,hw]at this
     cases this
   | some b =>
    rcases hjl with ⟨hg,_⟩|⟨hg,hjl⟩
    ·have:=hs.st.fr.wanted hg
     rw[ZK,hw]at this
     cases this
    ·obtain⟨_,obj',mk',hal,hjl⟩:=hjl
     have h1:=hal ac hs.st.fr
     have h2:ZI c.P o.op ac.eval=some (obj,mk):=hconst _ (fun v=>rfl)
     have h1:ZI c.P o.op ac.eval=some (obj',mk'):=h1
     rw[h2]at h1
     simp only[Option.some.injEq,Prod.mk.injEq]at h1
     obtain⟨rfl,rfl⟩:=h1
     have hv:valE c.P ops i (some b)=mk b:=Q4s ho hconst
     have hfr:=hs.e.fresh i b hEi
     have hblk:=hs.e.blk i b o hEi ho obj mk (hconst _ (fun v=>rfl))
     refine ih fuel live listed ((b,obj)::H) _ (Q0i E i) _ a w (hjl b hfr.1) (iP _ _ ?_ ?_) hcnt
     ·rw[hv]
      refine⟨hs.st.fr.put _ hd,hs.st.kp,hs.st.hs.cons hblk hfr.1,fun p hp=>?_⟩
      rcases List.mem_cons.1 hp with rfl|hp
      ·exact .inl hfr.2.1
      ·exact hs.st.wr p hp
     ·intro e b' he hne
      simp only[keys,List.map_cons,List.mem_cons,not_or]
      refine⟨fun e'=>hne ?_,(hs.e.fresh e b' he).1⟩
      subst e'
      exact hs.e.inj e i b' he hEi
  | none =>
   have hsub:∀ j,j<ops.size→lc.getD j false=true→listed.getD j false=true:=fun j hj h=>by rw[hs.l j hj,h];rfl
   have hrdyL:∀ {listed:Array Bool} {E:Early},listed.size=ops.size→(∀ j,j<ops.size→listed.getD j false=(lc.getD j false || (E j).isSome))→E i=none→i∈Region.ready .any ops listed:=by
    intro listed E hz hl hE
    obtain⟨_,o',ho',hall⟩:=mem_ready.1 hrdy
    refine mem_ready.2 ⟨?_,o',ho',fun e he hb=>?_⟩
    ·rw[Q0f (by rw[hz];exact hilt) true false,hl i hilt,hE,YE hiun];rfl
    ·have h1:=hall e he hb
     have hlt:e.on<ops.size:=by
      rcases Nat.lt_or_ge e.on lc.size with h|h
      ·rw[hs.lcz]at h;exact h
      ·rw[show lc.getD e.on false=false from by simp[Array.getElem?_eq_none h]]at h1;cases h1
     rw[hl _ hlt,h1];rfl
   by_cases hmv:kd i o.op=.bg∨kd i o.op=.ld
   ·-- it leaves the world alone: it is taken first
    have hfreeC:Region.free .any ops lc i=true:=by
     rcases hmv with h|h<;>rw[h]at hc1<;>exact hc1
    have hclr:∀ e ob oe,E e=some ob→ops[e]?=some oe→o.apart ops oe=true:=fun e ob oe he hoe=>by
     have hne:e≠i:=fun e'=>by subst e';rw[hEi]at he;cases he
     refine Region.free_spec ho hfreeC e oe hoe hne (hs.e.un e ob he) fun x hx hb hxi=>?_
     have:=hs.e.closed e ob oe he hoe x hx hb
     rw[hxi,hs.l i hilt,hEi,YE hiun]at this
     cases this
    have iZ:Clear ops E o:=fun e ob oe he hoe=>Q27 (hclr e ob oe he hoe)
    have hfreeL:∀ j oj,ops[j]?=some oj→j≠i→listed.getD j true=false→(∀ e∈oj.after,Region.binds .any e=true→e.on≠i)→o.apart ops oj=true:=fun j oj hj hne hun hno=>by
     refine Region.free_spec ho hfreeC j oj hj hne ?_ hno
     have hjlt:j<ops.size:=(Array.getElem?_eq_some_iff.1 hj).1
     rw[Q0f (by rw[hs.lsz];exact hjlt) true false,hs.l j hjlt]at hun
     simp only[Bool.or_eq_false_iff]at hun
     rw[Q0f (by rw[hs.lcz];exact hjlt) true false]
     exact hun.1
    have hwa:=hs.rel.wanted iZ
    cases fuel with
    | zero=>simp[List.countP_cons,hEi]at hf
    | succ f =>
     have hcnt:r.countP (fun j=>(E j).isNone)≤f:=by
      simp only[List.countP_cons,hEi,Option.isNone_none,if_true]at hf
      omega
     have hy:∃ v,YieldsIf c.P ops (fun w=>(decide (kd i o.op=.ld))=true→Src c Hs w) o v a∧(decide (kd i o.op=.ld)=true→live=true)∧JL c K (.draw Hs live) (Ql kd ops tail r) (dN F o.dst v) H:=by
      rcases hjl with ⟨hg,hl,hjl⟩|⟨hg,hjl⟩
      ·have:=hs.st.fr.wanted hg
       rw[ZK]at this
       exact⟨undef,.inr ⟨by rw[hwa];exact this,rfl⟩,fun h=>hl (by simpa using h),hjl⟩
      ·have hw:=hs.st.fr.wanted hg
       rw[ZK]at hw
       have hex:=hs.rel.exec (fun cs b=>hselS i o cs b ho) iZ
       rcases hmv with h|h
       ·rw[h]at hjl
        obtain⟨v,hr,hjl⟩:=hjl
        refine⟨v,.inl ⟨by rw[hwa];exact hw,fun w' _=>?_⟩,fun h'=>by rw[h]at h';simp at h',hjl⟩
        have:=hr ac w' hs.st.fr
        rw[X8]at this
        rw[hex];exact this
       ·rw[h]at hjl
        obtain⟨hl,v,hr,hjl⟩:=hjl
        refine⟨v,.inl ⟨by rw[hwa];exact hw,fun w' hw'=>?_⟩,fun _=>hl,hjl⟩
        have:=hr ac w' hs.st.fr (hw' (by simp[h]))
        rw[X8]at this
        rw[hex];exact this
     obtain⟨v,hy,hlv,hjl⟩:=hy
     refine Q72 ho hselS hQ (decide (kd i o.op=.ld)) (fun h=>by
      have:kd i o.op=.ld:=by simpa using h
      simp only[ldAt,ho,this]) f listed a w hfreeL (hrdyL hs.lsz hs.l hEi) hy (fun h=>⟨hs.st.kp,hs.hs (hlv h)⟩) ?_
     refine ih f live _ H _ E (ac.put o.dst v) (a.put o.dst v) w hjl ⟨⟨hs.st.fr.put v hd,hs.st.kp,hs.st.hs,hs.st.wr⟩,hs.hs,?_,⟨hs.e.iw,fun e ob he=>step_un hEi he (hs.e.un e ob he),fun e ob oe he hoe x hx hb=>getD_set_true (hs.e.closed e ob oe he hoe x hx hb),
      fun e ob oe he hoe=>?_,hs.e.blk,hs.e.fresh,hs.e.inj⟩,by simp[hs.lsz],by simp[hs.lcz],step_l hs hEi,step_all hs,lv_next hs.lv⟩ hcnt
     ·exact hs.rel.put v fun e ob oe he hoe s hsd hde=>(Oper.apart_spec (hclr e ob oe he hoe)).2.1 s hsd hde
     ·rw[wanted_put oe ac o.dst v (Oper.apart_spec (hclr e ob oe he hoe)).1]
      exact hs.e.wanted e ob oe he hoe
   ·-- it alone may come up, but for the early ones
    have hc1':Region.ready .any ops (Qbw c.P kd ops lc i)=[i]∧Q1f c.P kd ops lc i=true:=by
     cases hkk:kd i o.op with
     | bg=>exact absurd (.inl hkk) hmv
     | ld=>exact absurd (.inr hkk) hmv
     | alloc=>rw[hkk]at hc1;simpa using hc1
     | seq=>rw[hkk]at hc1;simpa using hc1
    obtain⟨hrU,haU⟩:=hc1'
    clear hsub
    clear hjl
    have main:∀ (fuel:Nat) (listed:Array Bool) (E:Early) (a:Act) (w:World),E i=none→Sim c kd ops Hs live (i::r) lc listed H F E ac a w (Zq (Ql kd ops tail (i::r))) →
      (i::r).countP (fun j=>(E j).isNone)≤fuel→Q4p c.P kd ops Q (Src c Hs) fuel listed a w:=by
     intro fuel
     induction fuel with
     | zero=>intro listed E a w hEi hs hf;simp[List.countP_cons,hEi]at hf
     | succ f ihf =>
      intro listed E a w hEi hs hf
      have hri:=hrdyL hs.lsz hs.l hEi
      refine⟨fun h=>(by rw[h]at hri;cases hri),fun j hjr=>?_⟩
      have hcntR:r.countP (fun j=>(E j).isNone)≤f:=by
       simp only[List.countP_cons,hEi,Option.isNone_none,if_true]at hf
       omega
      have hclr:∀ e ob oe,E e=some ob→ops[e]?=some oe→o.apart ops oe=true:=fun e ob oe he hoe=>by
       have hne:e≠i:=fun e'=>by subst e';rw[hEi]at he;cases he
       exact(Q0k ho hoe (Q4h haU hne (hs.e.un e ob he) (hs.e.iw e ob he))).1
      have iZ:Clear ops E o:=fun e ob oe he hoe=>Q27 (hclr e ob oe he hoe)
      by_cases hji:j=i
      ·subst hji
       have hwa:=hs.rel.wanted iZ
       have hjl:=hj
       rw[hso]at hjl
       simp only[JL]at hjl
       obtain⟨_,hjl⟩:=hjl
       rw[hkind,hdst]at hjl
       have iP:∀ {live':Bool} {H':aj} {F':ak} {ac' a':Act} {w':World},St c F' H' ac' w'→(live'=true→aG Hs w')→Rel c.P ops E ac' a' →
         (∀ e ob oe,E e=some ob→ops[e]?=some oe→Region.wanted oe (yielded ops ac'.tmps)=ob.isSome) →
         (∀ e b,E e=some (some b)→b∉keys H'∧w'.heap[b]?=w.heap[b]?)→w.heap.size≤w'.heap.size→(live'=true∨Zq (Ql kd ops tail r)=true) →
         Sim c kd ops Hs live' r (lc.setIfInBounds j true) (listed.setIfInBounds j true) H' F' E ac' a' w' (Zq (Ql kd ops tail r)):=by
        intro live' H' F' ac' a' w' st' hs' hrel' hwt hbl hsz hlv'
        refine⟨st',hs',hrel',⟨hs.e.iw,fun e ob he=>step_un hEi he (hs.e.un e ob he),fun e ob oe he hoe x hx hb=>getD_set_true (hs.e.closed e ob oe he hoe x hx hb),hwt,
         fun e b oe he hoe obj mk hal=>?_,fun e b he=>?_,hs.e.inj⟩,by simp[hs.lsz],by simp[hs.lcz],step_l hs hEi,step_all hs,hlv'⟩
        ·rw[(hbl e b he).2];exact hs.e.blk e b oe he hoe obj mk hal
        ·have:=(hs.e.fresh e b he).2
         exact⟨(hbl e b he).1,this.1,by omega⟩
       have hwput:∀ v e ob oe,E e=some ob→ops[e]?=some oe→Region.wanted oe (yielded ops (ac.put o.dst v).tmps)=ob.isSome:=fun v e ob oe he hoe=>by
        rw[wanted_put oe ac o.dst v (Oper.apart_spec (hclr e ob oe he hoe)).1]
        exact hs.e.wanted e ob oe he hoe
       have hrelput:∀ v,Rel c.P ops E (ac.put o.dst v) (a.put o.dst v):=fun v=>hs.rel.put v fun e ob oe he hoe s hsd hde=>(Oper.apart_spec (hclr e ob oe he hoe)).2.1 s hsd hde
       unfold wpOp
       simp only[ho]
       rcases hjl with ⟨hg,_,hjl⟩|⟨hg,hjl⟩
       ·have hw:=hs.st.fr.wanted hg
        rw[ZK]at hw
        rw[if_neg (by rw[hwa,hw];simp)]
        exact⟨by simp,ih f live _ H _ E _ _ w hjl (iP ⟨hs.st.fr.put undef hd,hs.st.kp,hs.st.hs,hs.st.wr⟩ hs.hs (hrelput _) (hwput _) (fun e b he=>⟨(hs.e.fresh e b he).1,rfl⟩) (V7 _) (lv_next hs.lv)) hcntR⟩
       ·have hw:=hs.st.fr.wanted hg
        rw[ZK]at hw
        rw[if_pos (by rw[hwa,hw])]
        refine .inl ?_
        cases hkk:kd j o.op with
        | bg=>exact absurd (.inl hkk) hmv
        | ld=>exact absurd (.inr hkk) hmv
        | alloc =>
         rw[hkk]at hjl
         obtain⟨hlive,obj,mk,hal,hjl⟩:=hjl
         have hlive:live=true:=hlive
         have hrun:=Q07 (o:=o) (hal ac hs.st.fr) w
         unfold Oper.wp
         rw[hs.rel.exec (fun cs b=>hselS j o cs b ho) iZ,hrun]
         refine⟨.inr fun _=>⟨hs.st.kp.trans (Kp.alloc _ _ _),(hs.hs hlive).alloc obj⟩,?_⟩
         have hfr:=hs.st.hs.fresh
         refine ih f live _ ((w.heap.size,obj)::H) _ E _ _ (w.alloc obj) (hjl _ hfr) (iP ⟨hs.st.fr.put _ hd,(hs.st.alloc obj).kp,(hs.st.hs.alloc obj).cons (Q70 w obj) hfr,fun p hp=>?_⟩ (fun h=>(hs.hs h).alloc obj) (hrelput _) (hwput _) (fun e b he=>?_) (Kp.alloc [] w obj).size (.inl hlive)) hcntR
         ·rcases List.mem_cons.1 hp with rfl|hp
          ·exact .inl hs.st.kp.size
          ·exact hs.st.wr p hp
         ·have h1:=hs.e.fresh e b he
          refine⟨?_,(Kp.alloc [] w obj).block b h1.2.2 aA⟩
          simp only[keys,List.map_cons,List.mem_cons,not_or]
          exact⟨by have:=h1.2.2;omega,h1.1⟩
        | seq =>
         rw[hkk]at hjl
         have hwp:=hjl ac w hs.st (fun h=>hs.hs h)
         rw[Qcw]at hwp
         refine hs.rel.wp (fun cs b=>hselS j o cs b ho) iZ ?_ (fun e x y h=>by cases e<;>exact h) hwp
         intro a1 a2 w' hv1 hrel' h
         obtain⟨hstep,F',H',m',st',hkeys,hm,hjl'⟩:=h
         cases m' with
         | text=>exact hm.elim
         | draw Hs' live' =>
          obtain⟨rfl,hm1,hm2,hm3⟩:=hm
          refine⟨.inr fun h=>⟨st'.kp,(hm1 (hm2 (hnsS h))).2⟩,?_⟩
          refine ih f live' _ H' F' E a1 a2 w' hjl' (iP st' (fun h=>(hm1 h).2) hrel' ?_ (fun e b he=>?_) hstep.size hm3) hcntR
          ·intro e ob oe he hoe
           obtain⟨v,hv1⟩:=hv1
           rw[hv1]
           exact hwput v e ob oe he hoe
          ·have h1:=hs.e.fresh e b he
           have hbM:b∉c.M:=fun hb=>by have:=c.hM b hb;omega
           refine⟨fun hk=>?_,hstep.block b h1.2.2 h1.1 hbM⟩
           rcases hkeys b hk with h|h|h
           ·exact h1.1 h
           ·exact hbM h
           ·omega
      ·-- one that comes up early
       have hju:iw c.P kd ops j=true:=(Qc3 hs.lsz hs.l hs.e.iw hEi hrU hjr).resolve_left hji
       obtain⟨oj,hoj,hkj,obj,mk,hconst⟩:=XS hju
       have hjlt:j<ops.size:=(Array.getElem?_eq_some_iff.1 hoj).1
       obtain⟨hjun,oj',hoj',hjall⟩:=mem_ready.1 hjr
       rw[hoj]at hoj';cases hoj'
       have hjl2:=hjun
       rw[Q0f (by rw[hs.lsz];exact hjlt) true false,hs.l j hjlt]at hjl2
       simp only[Bool.or_eq_false_iff]at hjl2
       obtain⟨hjlc,hjE⟩:=hjl2
       have hjE:E j=none:=by cases h:E j with|none=>rfl|some x=>rw[h]at hjE;cases hjE
       have hjlc':lc.getD j true=false:=by rw[Q0f (by rw[hs.lcz];exact hjlt) true false];exact hjlc
       have hjm:=hs.all j hjlt hjlc'
       have hlive:live=true:=by
        rcases hs.lv with h|h
        ·exact h
        ·have:=XQ (P:=c.P) h j hjm
         rw[hju]at this;cases this
       have hap:∀ e ob' oe,E e=some ob'→e≠j→ops[e]?=some oe→oe.apart ops oj=true:=fun e ob' oe he hne hoe =>
        (Q0k hoj hoe (hUA j e hju (hs.e.iw e ob' he) hne)).2
       have hneE:∀ e ob',E e=some ob'→e≠j:=fun e ob' he e'=>by subst e';rw[hjE]at he;cases he
       have hClearJ:Clear ops E oj:=fun e ob oe he hoe=>hap e ob oe he (hneE e ob he) hoe
       have hwa:=hs.rel.wanted hClearJ
       have hcnt':∀ ob,(i::r).countP (fun x=>(fM E j ob x).isNone)≤f:=fun ob=>by
        have:=Q46 (p:=fun x=>(fM E j ob x).isNone) (q:=fun x=>(E x).isNone) (l:=i::r) (j:=j) (fun x hx=>by
         by_cases h:x=j
         ·subst h;simp[fM]at hx
         ·simpa [fM,h] using hx) hjm (by simp[hjE]) (by simp[fM])
        omega
       have iP:∀ (ob:Option Nat) (w':World),St c F H ac w'→aG Hs w'→Region.wanted oj (yielded ops ac.tmps)=ob.isSome→(∀ k,k<w.heap.size→w'.heap[k]?=w.heap[k]?)→w.heap.size≤w'.heap.size →
         (∀ b,ob=some b→b=w.heap.size∧w'.heap[b]?=some obj∧b<w'.heap.size) →
         Sim c kd ops Hs live (i::r) lc (listed.setIfInBounds j true) H F (fM E j ob) ac (a.put oj.dst (valE c.P ops j ob)) w' (Zq (Ql kd ops tail (i::r))):=by
        intro ob w' st' hs' hwt hold hsz hb
        have hadd:∀ e ob',fM E j ob e=some ob'→(e=j∧ob'=ob)∨(e≠j∧E e=some ob'):=fun e ob' he=>by
         by_cases h:e=j
         ·subst h;simp only[fM,if_true,Option.some.injEq]at he;exact .inl ⟨rfl,he.symm⟩
         ·exact .inr ⟨h,by simpa [fM,h] using he⟩
        refine⟨st',fun _=>hs',hs.rel.add ob hoj hap,⟨fun e ob' he=>?_,fun e ob' he=>?_,fun e ob' oe he hoe x hx hbx=>?_,fun e ob' oe he hoe=>?_,fun e b oe he hoe obj' mk' hal=>?_,fun e b he=>?_,fun e e' b he he'=>?_⟩,
         by simp[hs.lsz],hs.lcz,fun x hx=>?_,hs.all,.inl hlive⟩
        ·rcases hadd e ob' he with ⟨rfl,_⟩|⟨_,he⟩
         ·exact hju
         ·exact hs.e.iw e ob' he
        ·rcases hadd e ob' he with ⟨rfl,_⟩|⟨_,he⟩
         ·exact hjlc'
         ·exact hs.e.un e ob' he
        ·rcases hadd e ob' he with ⟨rfl,_⟩|⟨_,he⟩
         ·rw[hoj]at hoe;cases hoe
          exact getD_set_true (hjall x hx hbx)
         ·exact getD_set_true (hs.e.closed e ob' oe he hoe x hx hbx)
        ·rcases hadd e ob' he with ⟨rfl,rfl⟩|⟨_,he⟩
         ·rw[hoj]at hoe;cases hoe
          exact hwt
         ·exact hs.e.wanted e ob' oe he hoe
        ·rcases hadd e _ he with ⟨rfl,h⟩|⟨_,he⟩
         ·rw[hoj]at hoe;cases hoe
          rw[hconst _ (fun v=>rfl)]at hal
          simp only[Option.some.injEq,Prod.mk.injEq]at hal
          obtain⟨rfl,rfl⟩:=hal
          exact(hb b h.symm).2.1
         ·rw[hold b (hs.e.fresh e b he).2.2]
          exact hs.e.blk e b oe he hoe obj' mk' hal
        ·rcases hadd e _ he with ⟨rfl,h⟩|⟨_,he⟩
         ·obtain⟨rfl,_,h3⟩:=hb b h.symm
          exact⟨hs.st.hs.fresh,hs.st.kp.size,h3⟩
         ·have:=hs.e.fresh e b he
          exact⟨this.1,this.2.1,by omega⟩
        ·rcases hadd e _ he with ⟨rfl,h⟩|⟨_,heE⟩
         ·rcases hadd e' _ he' with ⟨rfl,h'⟩|⟨_,he'⟩
          ·rfl
          ·have h1:=(hb b h.symm).1
           have h2:=(hs.e.fresh e' b he').2.2
           omega
         ·rcases hadd e' _ he' with ⟨rfl,h'⟩|⟨_,he'⟩
          ·have h1:=(hb b h'.symm).1
           have h2:=(hs.e.fresh e b heE).2.2
           omega
          ·exact hs.e.inj e e' b heE he'
        ·rw[Q2z (by rw[hs.lsz];exact hjlt),hs.l x hx]
         by_cases h:x=j
         ·subst h;simp[fM]
         ·have:(x == j)=false:=by simpa using h
          simp[fM,h,this]
       have hEi':∀ ob,fM E j ob i=none:=fun ob=>by simp[fM,Ne.symm hji,hEi]
       unfold wpOp
       simp only[hoj]
       cases hw:Region.wanted oj (yielded ops ac.tmps)with
       | false =>
        rw[if_neg (by rw[hwa,hw];simp)]
        exact⟨by simp,ihf _ (fM E j none) _ w (hEi' _) (iP none w hs.st (hs.hs hlive) hw (fun _ _=>rfl) (V7 _) (fun b h=>by cases h)) (hcnt' _)⟩
       | true =>
        rw[if_pos (by rw[hwa,hw])]
        refine .inl ?_
        have hrun:=Q07 (o:=oj) (hconst a.eval (fun v=>rfl)) w
        unfold Oper.wp
        rw[hrun]
        refine⟨.inr fun _=>⟨hs.st.kp.trans (Kp.alloc _ _ _),(hs.hs hlive).alloc obj⟩,?_⟩
        have hk:=Kp.alloc [] w obj
        have:=ihf _ (fM E j (some w.heap.size)) (a.put oj.dst (valE c.P ops j (some w.heap.size))) (w.alloc obj) (hEi' _)
         (iP (some w.heap.size) (w.alloc obj) (hs.st.alloc obj) ((hs.hs hlive).alloc obj) hw (fun k hk' => hk.block k hk' aA) hk.size (fun b h => by
          obtain rfl:=(Option.some.inj h).symm
          exact⟨rfl,Q70 w obj,by show _<(w.heap.push obj).size;simp⟩)) (hcnt' _)
        rw[Q4s hoj hconst]at this
        exact this
    exact main fuel listed E a w hEi hs hf

end

inductive dZ where
 | skip
 | ops (l:List bT)
 | opsD (l:List bT)
 | seq (a b:dZ)
 | cond (c:Operand) (thn els:dZ)
 | block (id:Nat) (body:dZ)
 | loop (body:dZ)
 | exit (id:Nat)
 | scope (body:dZ)
 | ret
 | raw (c:Code)
 | rawIn (l m:Nat) (c:Code)

structure Od where
 id:Nat
 tail:Nat:=0
 order:List Nat:=[]
 ov:List (Nat × Kind):=[]

def ay:List Od→Nat→Od
 | [],id=>{ id:=id }
 | d::l,id=>bif Nat.beq d.id id then d else ay l id

def Qy (d:Od) (n:Nat):List Nat :=
 match d.order with
 | []=>List.range n
 | l=>l

def Qe (ov:List (Nat × Kind)) (ops:Array Oper):Nat→List Oper→List bT
 | _,[]=>[]
 | i,o::r=>Qx ops (Qo ov i o.op) false o::Qe ov ops (i+1) r

def toS (od:List Od):Code→dZ
 | .skip=>.skip
 | .region id ops true=>.opsD (Ql (Qo (ay od id).ov) ops (ay od id).tail (Qy (ay od id) ops.size))
 | .region id ops false=>.ops (Qe (ay od id).ov ops 0 ops.toList)
 | .seq a b=>.seq (toS od a) (toS od b)
 | .cond c a b=>.cond c (toS od a) (toS od b)
 | .block id c=>.block id (toS od c)
 | .loop c=>.loop (toS od c)
 | .exit id=>.exit id
 | .scope c=>.scope (toS od c)
 | .ret=>.ret
 | c=>.raw c

def okS (P:Program) (od:List Od):Code→Bool
 | .region id ops true=>Wq P (Qo (ay od id).ov) ops (Qy (ay od id) ops.size) (ay od id).tail
 | .seq a b=>okS P od a && okS P od b
 | .cond _ a b=>okS P od a && okS P od b
 | .block _ c=>okS P od c
 | .loop c=>okS P od c
 | .scope c=>okS P od c
 | _=>true

def dZ.wp (c:Cx):dZ→(Exit→Act→World→Prop)→Act→World→Prop
 | .skip,Q,a,w=>Q .normal a w
 | .ops l,Q,a,w=>∃ F H,St c F H a w∧JL c (Q .normal) .text l F H
 | .opsD l,Q,a,w=>∃ F H Hs,St c F H a w∧aG Hs w∧JL c (Q .normal) (.draw Hs true) l F H
 | .seq x y,Q,a,w=>x.wp c (Exit.then (y.wp c Q) Q) a w
 | .cond x y z,Q,a,w=>∃ t,a.eval x=.bool t∧(t=true→y.wp c Q a w)∧(t=false→z.wp c Q a w)
 | .block id s,Q,a,w=>s.wp c (Exit.inBlock id Q) a w
 | .loop s,Q,a,w=>∃ I:Nat→Act→World→Prop,(∃ n,I n a w)∧∀ n a w,I n a w→s.wp c (Exit.then (fun a' w'=>∃ m,m<n∧I m a' w') Q) a w
 | .exit id,Q,a,w=>Q (.exit id) a w
 | .scope s,Q,a,w=>s.wp c (Exit.noGoto Q) a w
 | .ret,Q,a,w=>Q .ret a w
 | .raw s,Q,a,w=>s.wp c.P Q a w
 | .rawIn l m s,Q,a,w=>s.wpIn (Fence.wide.inRound l) m c.P Q a w

theorem Q0q {P:Program} {Q:Exit→Act→World→Prop} {c:Code} {a:Act} {w:World} (I:Nat→Act→World→Prop) (n:Nat) (h₀:I n a w)
  (round:∀ n a w,I n a w→c.wp P (Exit.then (fun a' w'=>∃ m,m<n∧I m a' w') Q) a w):(Code.loop c).wp P Q a w:=by
 intro b k cs
 have key:∀ n a w,I n a w →
   ∃ e a' w',Q e a' w'∧Arrives P (lone (b.at a (.code c::.inLoop c::k)) cs w) b k cs e a' w':=by
  intro n
  induction n using Nat.strongRecOn with
  | _ n ih =>
   intro a w hI
   obtain⟨e,a₁,w₁,hq,harr⟩:=round n a w hI b (.inLoop c::k) cs
   cases e with
   | normal =>
    obtain⟨m,hlt,hI₁⟩:=hq
    obtain⟨e₂,a₂,w₂,hq₂,harr₂⟩:=ih m hlt a₁ w₁ hI₁
    exact⟨e₂,a₂,w₂,hq₂,.of_steps (Steps.trans harr (.one step_inLoop)) harr₂⟩
   | exit id=>exact⟨_,a₁,w₁,hq,.pass (x:=.inLoop c) rfl (fun _ _=>.inl aA) harr⟩
   | goto l=>exact⟨_,a₁,w₁,hq,.pass (x:=.inLoop c) rfl (fun _ _=>.inl aA) harr⟩
   | ret=>exact⟨_,a₁,w₁,hq,.pass (x:=.inLoop c) rfl (fun _ _=>.inl aA) harr⟩
   | panic ch=>exact⟨_,a₁,w₁,hq,.pass (x:=.inLoop c) rfl (fun _ _=>.inl aA) harr⟩
   | outgrown=>exact⟨_,a₁,w₁,hq,.pass (x:=.inLoop c) rfl (fun _ _=>.inl aA) harr⟩
 obtain⟨e,a',w',hq,harr⟩:=key n a w h₀
 exact⟨e,a',w',hq,.of_steps (.one step_loop) harr⟩

theorem Xv (ov:List (Nat × Kind)) (ops:Array Oper):∀ (l:List Oper) (i:Nat),∃ kd:List Kind,kd.length=l.length∧Qe ov ops i l=(l.zip kd).map fun p=>Qx ops p.2 false p.1
 | [],_=>⟨[],rfl,rfl⟩
 | o::r,i=>by
  obtain⟨kd,hl,h⟩:=Xv ov ops r (i+1)
  exact⟨Qo ov i o.op::kd,by simp[hl],by simp[Qe,h]⟩

theorem Q35 {c:Cx} {kd:Nat→Op→Kind} {Q:Exit→Act→World→Prop} {id tail:Nat} {order:List Nat} {ops:Array Oper} {F:ak} {H Hs:aj} {a:Act} {w:World}
  (hm:c.P.follows .mixedOrders=true) (hB:Wq c.P kd ops order tail=true) (st:St c F H a w) (iV:aG Hs w) (h:JL c (Q .normal) (.draw Hs true) (Ql kd ops tail order) F H) :
  (Code.region id ops true).wp c.P Q a w:=by
 simp only[Wq,Bool.and_eq_true]at hB
 obtain⟨hs,ht,hal,hl,hc,hu⟩:=hB
 have hl:order.length=ops.size:=by simpa using hl
 refine wp_mono ?_ (fun e a w h=>Q4i e a w h)
 refine wp_region_any hm (Ws (kd:=kd) (S:=Src c Hs) _ _ _ _ ?_)
 have st':St c F H a { w with drawn:=w.drawn+1 }:=⟨st.fr,st.kp.trans (Kp.drew _ _),st.hs.kp (Kp.drew [] w) aA,st.wr⟩
 have hU:∀ i,i<ops.size→iw c.P kd ops i=true→Q1f c.P kd ops (Array.replicate ops.size false) i=true:=fun i hi hx=>by
  have:=List.all_eq_true.1 hu i (List.mem_range.2 hi)
  simpa [hx] using this
 refine sim (Q:=Only (Q .normal)) (K:=Q .normal) hs hU (fun a w h=>h) (fun ch a a' w h=>h.elim) order _ hc ht ops.size true _ H F (fun _=>none) a a _ h ?_ ?_
 ·refine⟨st',fun _=>iV.kp (Kp.drew [] w) aA,⟨rfl,rfl,(fun e ob o d h=>by cases h),fun s _=>rfl⟩,⟨fun e ob h=>(by cases h),fun e ob h=>(by cases h),fun e ob o h=>(by cases h),fun e ob o h=>(by cases h),fun e b o h=>(by cases h),fun e b h=>(by cases h),fun e e' b h=>(by cases h)⟩,
   by simp,by simp,fun j hj=>by simp,fun j hj _=>?_,.inl rfl⟩
  have:=List.all_eq_true.1 hal j (List.mem_range.2 hj)
  simpa using this
 ·exact hl▸List.countP_le_length

theorem Q34 {c:Cx} {Q:Exit→Act→World→Prop} {id:Nat} {ops:Array Oper} {ov:List (Nat × Kind)} {F:ak} {H:aj} {a:Act} {w:World}
  (st:St c F H a w) (h:JL c (Q .normal) .text (Qe ov ops 0 ops.toList) F H):(Code.region id ops false).wp c.P Q a w:=by
 obtain⟨kd,hl,he⟩:=Xv ov ops ops.toList 0
 rw[he]at h
 have:=Xc (P:=c.P) (ops:=ops) (Q:=Q) rfl _ F H h a w st
 rw[List.map_fst_zip oq]at this
 exact wp_region_list this

theorem aU {c:Cx} (od:List Od) (hm:c.P.follows .mixedOrders=true):∀ (s:Code) (Q:Exit→Act→World→Prop) (a:Act) (w:World),
  okS c.P od s=true→(toS od s).wp c Q a w→s.wp c.P Q a w
 | .skip,Q,a,w,_,h=>wp_skip h
 | .region id ops false,Q,a,w,hk,h=>by
  obtain⟨F,H,st,h⟩:=h
  exact Q34 st h
 | .region id ops true,Q,a,w,hk,h=>by
  obtain⟨F,H,Hs,st,iV,h⟩:=h
  exact Q35 hm hk st iV h
 | .seq x y,Q,a,w,hk,h=>by
  simp only[okS,Bool.and_eq_true]at hk
  refine wp_seq (aU od hm x _ a w hk.1 ?_)
  refine wp_mono' (fun e a w hq=>?_) h
  cases e<;>first|exact hq|exact aU od hm y _ _ _ hk.2 hq
 | .cond x y z,Q,a,w,hk,h=>by
  simp only[okS,Bool.and_eq_true]at hk
  obtain⟨t,hc,h1,h2⟩:=h
  exact wp_cond_split hc (fun ht=>aU od hm y _ _ _ hk.1 (h1 ht)) (fun ht=>aU od hm z _ _ _ hk.2 (h2 ht))
 | .block id s,Q,a,w,hk,h=>wp_block (aU od hm s _ _ _ hk h)
 | .loop s,Q,a,w,hk,h=>by
  obtain⟨I,⟨n,h0⟩,hr⟩:=h
  exact Q0q I n h0 fun n a w hi=>aU od hm s _ _ _ hk (hr n a w hi)
 | .exit id,Q,a,w,_,h=>wp_exit h
 | .scope s,Q,a,w,hk,h=>wp_scope_straight (aU od hm s _ _ _ hk h)
 | .ret,Q,a,w,_,h=>wp_ret h
 | .label _,_,_,_,_,h=>h
 | .goto _,_,_,_,_,h=>h
 | .refuse _,_,_,_,_,h=>h
 | .rangeFunc ..,_,_,_,_,h=>h
where
 JL_mono {c:Cx} {K K':Act→World→Prop} (hk:∀ a w,K a w→K' a w):∀ {l:List bT} {m:Mode} {F:ak} {H:aj},JL c K m l F H→JL c K' m l F H:=by
  intro l
  induction l with
  | nil=>intro m F H h a w st;exact hk _ _ (h a w st)
  | cons o l ih =>
   intro m F H h
   simp only[JL]at h ⊢
   refine⟨h.1,?_⟩
   rcases h.2 with ⟨hg,hl,h⟩|⟨hg,h⟩
   ·exact .inl ⟨hg,hl,ih h⟩
   ·refine .inr ⟨hg,?_⟩
    cases hkd:o.kind with
    | bg=>rw[hkd]at h;obtain⟨v,hr,h⟩:=h;exact⟨v,hr,ih h⟩
    | ld=>rw[hkd]at h;obtain⟨hl,v,hr,h⟩:=h;exact⟨hl,v,hr,ih h⟩
    | alloc=>rw[hkd]at h;obtain⟨hl,obj,mk,hr,h⟩:=h;exact⟨hl,obj,mk,hr,fun b hb=>ih (h b hb)⟩
    | seq =>
     rw[hkd]at h
     intro a w st hh
     refine Oper.wp_mono ?_ (h a w st hh)
     rintro a' w' ⟨hstep,F',H',m',st',hk',hm,hj⟩
     exact⟨hstep,F',H',m',st',hk',hm,ih hj⟩
 wp_mono' {c:Cx}:∀ {s:dZ} {Q Q':Exit→Act→World→Prop} {a:Act} {w:World},(∀ e a w,Q e a w→Q' e a w)→s.wp c Q a w→s.wp c Q' a w:=by
  intro s
  induction s with
  | skip=>intro Q Q' a w hq h;exact hq _ _ _ h
  | ops l=>intro Q Q' a w hq h;obtain⟨F,H,st,h⟩:=h;exact⟨F,H,st,JL_mono (fun a w=>hq _ a w) h⟩
  | opsD l=>intro Q Q' a w hq h;obtain⟨F,H,Hs,st,iV,h⟩:=h;exact⟨F,H,Hs,st,iV,JL_mono (fun a w=>hq _ a w) h⟩
  | seq x y ihx ihy=>intro Q Q' a w hq h;exact ihx (fun e a w h'=>by cases e<;>first|exact ihy hq h'|exact hq _ _ _ h') h
  | cond x y z ihx ihy=>intro Q Q' a w hq h;obtain⟨t,hc,h1,h2⟩:=h;exact⟨t,hc,fun ht=>ihx hq (h1 ht),fun ht=>ihy hq (h2 ht)⟩
  | block id s ih => intro Q Q' a w hq h; exact ih (fun e a w h' => by
    cases e with
    | exit id'=>simp only[Exit.inBlock]at h' ⊢;split<;>(rename_i hi;simp only[hi,if_true,if_false]at h';exact hq _ _ _ h')
    | _=>exact hq _ _ _ h') h
  | loop s ih=>intro Q Q' a w hq h;obtain⟨I,h0,hr⟩:=h;exact⟨I,h0,fun n a w hi=>ih (fun e a w h'=>by cases e<;>first|exact h'|exact hq _ _ _ h') (hr n a w hi)⟩
  | exit id=>intro Q Q' a w hq h;exact hq _ _ _ h
  | scope s ih=>intro Q Q' a w hq h;exact ih (fun e a w h'=>by cases e<;>first|exact hq _ _ _ h'|exact h') h
  | ret=>intro Q Q' a w hq h;exact hq _ _ _ h
  | raw s=>intro Q Q' a w hq h;exact Code.wp_mono hq h
  | rawIn l m s=>intro Q Q' a w hq h;exact wpIn_mono h hq

structure JC (c:Cx) (Q:Exit→Act→World→Prop) (s:dZ) (F:ak) (H:aj):Prop where
 h:∀ a w,St c F H a w→s.wp c Q a w
structure JX (c:Cx) (Q:Exit→Act→World→Prop) (e:Exit) (F:ak) (H:aj):Prop where
 h:∀ a w,St c F H a w→Q e a w
structure JO (c:Cx) (Q:Exit→Act→World→Prop) (m:Mode) (l:List bT) (F:ak) (H:aj):Prop where
 h:JL c (Q .normal) m l F H

section
variable {c:Cx} {Q:Exit→Act→World→Prop} {K:Act→World→Prop} {s t:dZ} {F:ak} {H:aj} {id id':Nat}

theorem JC.ops {l:List bT} (h:JO c Q .text l F H):JC c Q (.ops l) F H:=⟨fun _ _ st=>⟨F,H,st,h.h⟩⟩
theorem jO {l:List bT} (h:JO c Q .text l F H):JC c Q (.ops l) F H:=JC.ops h
theorem JC.opsD {l:List bT} (h:JO c Q (.draw H true) l F H):JC c Q (.opsD l) F H:=⟨fun _ _ st=>⟨F,H,H,st,st.hs,h.h⟩⟩
theorem jD {l:List bT} (h:JO c Q (.draw H true) l F H):JC c Q (.opsD l) F H:=JC.opsD h
theorem JO.nil {m:Mode} (h:JX c Q .normal F H):JO c Q m [] F H:=⟨h.h⟩
theorem jN {m:Mode} (h:JX c Q .normal F H):JO c Q m [] F H:=JO.nil h
theorem JC.seq (h:JC c (Exit.then (t.wp c Q) Q) s F H):JC c Q (.seq s t) F H:=⟨h.h⟩
theorem jS (h:JC c (Exit.then (t.wp c Q) Q) s F H):JC c Q (.seq s t) F H:=JC.seq h
theorem JC.skip (h:JX c Q .normal F H):JC c Q .skip F H:=⟨h.h⟩
theorem jK (h:JX c Q .normal F H):JC c Q .skip F H:=JC.skip h
theorem JC.exit (h:JX c Q (.exit id) F H):JC c Q (.exit id) F H:=⟨h.h⟩
theorem jE (h:JX c Q (.exit id) F H):JC c Q (.exit id) F H:=JC.exit h
theorem JC.ret (h:JX c Q .ret F H):JC c Q .ret F H:=⟨h.h⟩
theorem jR (h:JX c Q .ret F H):JC c Q .ret F H:=JC.ret h
theorem JC.block (h:JC c (Exit.inBlock id Q) s F H):JC c Q (.block id s) F H:=⟨h.h⟩
theorem jB (h:JC c (Exit.inBlock id Q) s F H):JC c Q (.block id s) F H:=JC.block h
theorem JC.scope (h:JC c (Exit.noGoto Q) s F H):JC c Q (.scope s) F H:=⟨h.h⟩
theorem jC (h:JC c (Exit.noGoto Q) s F H):JC c Q (.scope s) F H:=JC.scope h
theorem Q5 {x:Operand} (hx:ev F x=some (.bool true)) (h:JC c Q s F H):JC c Q (.cond x s t) F H :=
 ⟨fun a w st=>⟨true,st.fr.ev hx,fun _=>h.h a w st,(fun h=>by cases h)⟩⟩
theorem Q4 {x:Operand} (hx:ev F x=some (.bool false)) (h:JC c Q t F H):JC c Q (.cond x s t) F H :=
 ⟨fun a w st=>⟨false,st.fr.ev hx,(fun h=>by cases h),fun _=>h.h a w st⟩⟩
theorem JC.cond {x:Operand} {b:Bool} (hx:ev F x=some (.bool b)) (h:b=true→JC c Q s F H) (h':b=false→JC c Q t F H):JC c Q (.cond x s t) F H :=
 ⟨fun a w st=>⟨b,st.fr.ev hx,fun e=>(h e).h a w st,fun e=>(h' e).h a w st⟩⟩

theorem Zf (h:JC c Q t F H):JX c (Exit.then (t.wp c Q) Q) .normal F H:=⟨h.h⟩
theorem jT (h:JC c Q t F H):JX c (Exit.then (t.wp c Q) Q) .normal F H:=Zf h
theorem Qiz (h:JX c Q (.exit id) F H):JX c (Exit.then K Q) (.exit id) F H:=⟨h.h⟩
theorem jU (h:JX c Q (.exit id) F H):JX c (Exit.then K Q) (.exit id) F H:=Qiz h
theorem Qiy (h:JX c Q .ret F H):JX c (Exit.then K Q) .ret F H:=⟨h.h⟩
theorem jV (h:JX c Q .ret F H):JX c (Exit.then K Q) .ret F H:=Qiy h
theorem Qgi (h:JX c Q .normal F H):JX c (Exit.inBlock id Q) .normal F H:=⟨h.h⟩
theorem jW (h:JX c Q .normal F H):JX c (Exit.inBlock id Q) .normal F H:=Qgi h
theorem Qz (h:JX c Q .ret F H):JX c (Exit.inBlock id Q) .ret F H:=⟨h.h⟩
theorem Qc (h:JX c Q .normal F H):JX c (Exit.inBlock id Q) (.exit id) F H:=⟨fun a w st=>by
 simp only[Exit.inBlock,if_true];exact h.h a w st⟩
theorem Qgh (hne:Nat.beq id' id=false) (h:JX c Q (.exit id') F H):JX c (Exit.inBlock id Q) (.exit id') F H:=⟨fun a w st=>by
 simp only[Exit.inBlock,if_neg (Nat.ne_of_beq_eq_false hne)];exact h.h a w st⟩
theorem XF (h:JX c Q .ret F H):JX c (Exit.noGoto Q) .ret F H:=⟨h.h⟩
def cov (F:ak):ak→Prop
 | []=>True
 | (i,v)::r=>look F i=some v∧cov F r

theorem WB {F:ak}:∀ {F':ak},cov F F'→∀ i v,look F' i=some v→look F i=some v
 | [],_,i,v,h=>by cases h
 | (j,u)::r,hc,i,v,h=>by
  simp only[look]at h
  cases hj:Nat.beq j i with
  | true=>rw[hj]at h;simp only[cond_true,Option.some.injEq]at h;rw[← Nat.eq_of_beq_eq_true hj, ← h];exact hc.1
  | false=>rw[hj]at h;exact WB hc.2 i v h

def covH (H:aj):aj→List Nat→Prop
 | [],[]=>True
 | p::r,k::ks=>H[k]?=some p∧covH H r ks
 | _,_=>False

theorem Q32 {H:aj}:∀ {H':aj} {ks:List Nat},covH H H' ks→∀ p∈H',∃ k∈ks,H[k]?=some p
 | [],[],_,p,hp=>by cases hp
 | q :: r, k :: ks, h, p, hp => by
  rcases List.mem_cons.1 hp with rfl|hp
  ·exact⟨k,by simp,h.1⟩
  ·obtain⟨k',h1,h2⟩:=Q32 h.2 p hp
   exact⟨k',by simp[h1],h2⟩
 | [],_::_,h,_,_=>h.elim
 | _::_,[],h,_,_=>h.elim

theorem Q5c {H:aj} (hn:(H.map (·.1)).Nodup):∀ {H':aj} {ks:List Nat},covH H H' ks→ks.Nodup→(H'.map (·.1)).Nodup
 | [],[],_,_=>by simp
 | q :: r, k :: ks, h, hk => by
  rw[List.map_cons,List.nodup_cons]
  rw[List.nodup_cons]at hk
  refine⟨fun hm=>?_,Q5c hn h.2 hk.2⟩
  obtain⟨p,hp,he⟩:=List.mem_map.1 hm
  obtain⟨k',hk',hp'⟩:=Q32 h.2 p hp
  have h1:(H.map (·.1))[k]?=some q.1:=by simp[h.1]
  have h2:(H.map (·.1))[k']?=some q.1:=by simp[hp',he]
  have:k=k':=by
   have hl:=(List.getElem?_eq_some_iff.1 h1).1
   exact(List.getElem?_inj hl hn).1 (h1.trans h2.symm)
  exact hk.1 (this▸hk')
 | [],_::_,h,_=>h.elim
 | _::_,[],h,_=>h.elim

theorem St.sub {F':ak} {H':aj} {a:Act} {w:World} (ks:List Nat) (h:St c F H a w) (hf:cov F F') (hh:covH H H' ks) (hk:ks.Nodup):St c F' H' a w :=
 ⟨⟨h.fr.defers, h.fr.size, fun i v hl => h.fr.fr i v (WB hf i v hl)⟩, h.kp,
  ⟨Q5c h.hs.nd hh hk,fun p hp=>by obtain⟨k,_,hp'⟩:=Q32 hh p hp;exact h.hs.blk p (List.mem_of_getElem? hp')⟩,
  fun p hp=>by obtain⟨k,_,hp'⟩:=Q32 hh p hp;exact h.wr p (List.mem_of_getElem? hp')⟩

structure LInv (ι:Type) where
 F:ι→ak
 H:ι→aj
 p:ι→Prop
 m:ι→Nat

def LInv.next {ι:Type} (I:LInv ι) (c:Cx) (i:ι) (a:Act) (w:World):Prop:=∃ n,n<I.m i∧∃ j,I.p j∧I.m j=n∧St c (I.F j) (I.H j) a w

theorem JC.loop {ι:Type} (I:LInv ι) (i0:ι) (ks:List Nat) (hp:I.p i0) (hf:cov F (I.F i0)) (hh:covH H (I.H i0) ks) (hk:ks.Nodup)
  (round:∀ i,I.p i→JC c (Exit.then (I.next c i) Q) s (I.F i) (I.H i)):JC c Q (.loop s) F H:=by
 refine⟨fun a w st=>?_⟩
 refine⟨fun n a w=>∃ i,I.p i∧I.m i=n∧St c (I.F i) (I.H i) a w,⟨I.m i0,i0,hp,rfl,st.sub ks hf hh hk⟩,?_⟩
 rintro n a w ⟨i,hi,rfl,st⟩
 exact(round i hi).h a w st

theorem JX.round {ι:Type} {I:LInv ι} {i:ι} (j:ι) (ks:List Nat) (hp:I.p j) (hm:I.m j<I.m i) (hf:cov F (I.F j)) (hh:covH H (I.H j) ks) (hk:ks.Nodup):JX c (Exit.then (I.next c i) Q) .normal F H :=
 ⟨fun _ _ st=>⟨I.m j,hm,j,hp,rfl,st.sub ks hf hh hk⟩⟩

theorem JC.sub {F':ak} {H':aj} (ks:List Nat) (hf:cov F F') (hh:covH H H' ks) (hk:ks.Nodup) (h:JC c Q s F' H'):JC c Q s F H:=⟨fun a w st=>h.h a w (st.sub ks hf hh hk)⟩
theorem JX.sub {e:Exit} {F':ak} {H':aj} (ks:List Nat) (hf:cov F F') (hh:covH H H' ks) (hk:ks.Nodup) (h:JX c Q e F' H'):JX c Q e F H:=⟨fun a w st=>h.h a w (st.sub ks hf hh hk)⟩

end

def aQ (R:Value→World→Prop):Ending→World→Prop
 | .returned v,w=>R v w
 | _,_=>False

def X9 (P:Program) (rs:Array ResultVar) (R:Ending→World→Prop):Exit→Act→World→Prop
 | .normal,a,w | .ret,a,w=>a.defers=[]∧∃ v,(results { (default:Func)with results:=rs } a.tmps).run P w=.ok v w∧R (.returned v) w
 | .panic chain,a,w=>a.defers=[]∧R (.panicked chain) w
 | .outgrown,_,w=>R .outgrown w
 | _,_,_=>False

def aB:Nat→List Value→ak
 | _,[]=>[]
 | i,v::r=>(i,v)::aB (i+1) r

theorem Q0l:∀ (vs:List Value) (k i:Nat) (v:Value),look (aB k vs) i=some v→k≤i∧vs[i-k]?=some v
 | [],_,_,_,h=>by cases h
 | u :: r, k, i, v, h => by
  simp only[aB,look]at h
  cases hk:Nat.beq k i with
  | true=>rw[hk]at h;simp only[cond_true,Option.some.injEq]at h;have:=Nat.eq_of_beq_eq_true hk;subst this;simp[h]
  | false =>
   rw[hk]at h
   obtain⟨h1,h2⟩:=Q0l r (k+1) i v h
   refine⟨by omega,?_⟩
   rw[show i-k=(i-(k+1))+1 from by omega]
   simpa using h2

theorem Qa {P:Program} {f:FuncId} {fn:Func} {s:Code} {args:Array Value} {w:World} {R:Ending→World→Prop} {n:Nat} {rs:Array ResultVar} (od:List Od) (M:List Nat) (hM:∀ k∈M,k<w.heap.size)
  (H:aj) (hf:P.funcs[f]?=some fn) (hb:fn.body=some s) (hm:P.follows .mixedOrders=true) (hk:okS P od s=true)
  (hn:fn.ntmps=n) (hrs:fn.results=rs) (hF:Nat.ble args.size n=true) (hH:aG H w) (hwr:∀ p∈H,p.1∈M)
  (h:JC ⟨P,n,w,M,hM⟩ (X9 P rs R) (toS od s) (aB 0 args.toList) H):Calls P f args w R:=by
 subst hn hrs
 have hF:=Nat.le_of_ble_eq_true hF
 refine calls_of_wp hf hb ?_
 refine Code.wp_mono ?_ (aU (c:=⟨P,fn.ntmps,w,M,hM⟩) od hm s _ _ _ hk (h.h _ _ ⟨⟨rfl,?_,fun i v hl=>?_⟩,Kp.refl _ _,hH,fun p hp=>.inr (hwr p hp)⟩))
 ·intro e a w hq
  cases e<;>exact hq
 ·simp;omega
 ·obtain⟨_,h1⟩:=Q0l _ _ _ _ hl
  have h1:args[i]?=some v:=by simpa using h1
  have h2:i<args.size:=by
   rcases Nat.lt_or_ge i args.size with h|h
   ·exact h
   ·rw[Array.getElem?_eq_none h]at h1;cases h1
  rw[Array.getElem?_append_left h2];exact h1


class T1 (P:Program) (t:TypeId):Prop where
 agg:∀ w,(isAgg t).run P w=.ok false w
 size:∀ w,(sizeOf t).run P w=.ok 1 w
class TN (P:Program) (t:TypeId) (n:outParam Nat):Prop where
 agg:∀ w,(isAgg t).run P w=.ok true w
 size:∀ w,(sizeOf t).run P w=.ok n w
class dh (P:Program) (t:TypeId) (e:outParam TypeId):Prop where
 und:P.underlying t=some (.slice e)
class dS (P:Program) (e:TypeId) (n:outParam Nat):Prop where
 size:∀ w,(sizeOf e).run P w=.ok n w
class TB (P:Program) (t:TypeId):Prop where
 und:P.underlying t=some .bool
class TZ (P:Program) (t:TypeId) (z:outParam Value):Prop where
 zero:(P.info? t).bind (·.zero)=some z
class FA (P:Program) (s:TypeId) (f:Nat) (off:outParam Nat):Prop where
 run:∀ a w,(Instr.fieldAt s (.pointer (some a)) f).run P w=.ok (.pointer (some (a.add off))) w
class TF (P:Program) (f:FuncId):Prop where
 run:∀ args w,(callFunc f args).run P w=.ok (.enter f args) w

theorem T1.mk' {P:Program} {t:TypeId} {d:TypeDesc} (hu:P.underlying t=some d) (hd:(match d with | .struct _ | .array _ _=>true|_=>false)=false) (hi:(P.info? t).map (·.size)=some 1):T1 P t:=by
 refine⟨fun w=>?_,fun w=>?_⟩
 ·unfold isAgg underlying
  simp only[Sem.run_bind,run_program,Result.andThen_ok,hu,Sem.run_pure]
  cases d<;>first|rfl|cases hd
 ·unfold sizeOf typeInfo
  cases h:P.info? t with
  | none=>rw[h]at hi;cases hi
  | some i=>rw[h]at hi;simp at hi;simp[h,hi]
theorem TN.mk' {P:Program} {t:TypeId} {d:TypeDesc} {n:Nat} (hu:P.underlying t=some d) (hd:(match d with | .struct _ | .array _ _=>true|_=>false)=true) (hi:(P.info? t).map (·.size)=some n):TN P t n:=by
 refine⟨fun w=>?_,fun w=>?_⟩
 ·unfold isAgg underlying
  simp only[Sem.run_bind,run_program,Result.andThen_ok,hu,Sem.run_pure]
  cases d<;>first|rfl|cases hd
 ·unfold sizeOf typeInfo
  cases h:P.info? t with
  | none=>rw[h]at hi;cases hi
  | some i=>rw[h]at hi;simp at hi;simp[h,hi]
theorem dS.mk' {P:Program} {t:TypeId} {n:Nat} (hi:(P.info? t).map (·.size)=some n):dS P t n:=by
 refine⟨fun w=>?_⟩
 unfold sizeOf typeInfo
 cases h:P.info? t with
 | none=>rw[h]at hi;cases hi
 | some i=>rw[h]at hi;simp at hi;simp[h,hi]
theorem FA.mk' {P:Program} {s:TypeId} {fs:Array Field} {f:Nat} {fl:Field} (hu:P.underlying s=some (.struct fs)) (hf:fs[f]?=some fl) (hs:((P.info? fl.type).map (·.size)).any (fun n=>n != 0)=true):FA P s f fl.offset:=by
 refine⟨fun a w=>?_⟩
 unfold Instr.fieldAt underlying fieldPlace sizeOf typeInfo Instr.sureAddr
 cases h:P.info? fl.type with
 | none=>rw[h]at hs;cases hs
 | some i =>
  rw[h]at hs
  have:i.size≠0:=by simpa using hs
  simp[hu,hf,h,this]
theorem TF.mk' {P:Program} {f:FuncId} {fn:Func} {s:Code} (hf:P.funcs[f]?=some fn) (hn:(fn.name == "runtime.NumGoroutine")=false) (hb:fn.body=some s):TF P f:=by
 refine⟨fun args w=>?_⟩
 unfold callFunc
 simp only[Sem.run_bind,run_program,Result.andThen_ok,hf,hn,hb,Bool.false_eq_true,if_false,Option.isNone_some,Sem.run_pure]

section
variable {c:Cx} {Q:Exit→Act→World→Prop} {m:Mode} {F:ak} {H:aj} {r:List bT} {g:Option (Option Tmp × Bool)} {ns:Bool} {d:Option Tmp} {ty:TypeId}

theorem Qnn {op:Op} {k:Kind} (hd:Qw c.n d=true) (hg:Qi F g=some false) (hl:k=.ld→m.live=true) (h:JO c Q m r (dN F d undef) H):JO c Q m (⟨d,op,ty,g,k,ns⟩::r) F H :=
 ⟨⟨hd,.inl ⟨hg,hl,h.h⟩⟩⟩
theorem QA {op:Op} {k:Kind} (h:JO c Q m r (dN F d undef) H) (hd:Qw c.n d=true:=by exact rfl) (hg:Qi F g=some false:=by exact rfl) (hl:k=.ld→m.live=true:=by(first|(intro h;cases h;done)|(intro _;rfl))):JO c Q m (⟨d,op,ty,g,k,ns⟩::r) F H:=Qnn (hd:=hd) (hg:=hg) (hl:=hl) (h:=h)

theorem ZE {op:Op} {v:Value} (hd:Qw c.n d=true) (hg:Qi F g=some true) (hr:∀ a w,dQ c.n F a→(execOp a.eval ⟨d,op,ty, "",#[],none⟩).run c.P w=.ok (.value v) w) (h:JO c Q m r (dN F d v) H) :
  JO c Q m (⟨d,op,ty,g,.bg,ns⟩::r) F H:=⟨⟨hd,.inr ⟨hg,v,hr,h.h⟩⟩⟩

theorem Qnt {d:Tmp} {x:Operand} {v:Value} (hd:Qw c.n (some d)=true) (hg:Qi F g=some true) (hx:ev F x=some v) (h:JO c Q m r ((d,v)::F) H):JO c Q m (⟨some d,.move x,ty,g,.bg,ns⟩::r) F H :=
 ZE hd hg (fun a w fr=>by simp[execOp,fr.ev hx]) h
theorem Q1 {d:Tmp} {x:Operand} {v:Value} (h:JO c Q m r ((d,v)::F) H) (hd:Qw c.n (some d)=true:=by exact rfl) (hg:Qi F g=some true:=by exact rfl) (hx:ev F x=some v:=by exact rfl):JO c Q m (⟨some d,.move x,ty,g,.bg,ns⟩::r) F H:=Qnt (hd:=hd) (hg:=hg) (hx:=hx) (h:=h)

theorem Qhr {d:Tmp} {x:Operand} {v:Value} (hd:Qw c.n (some d)=true) (hg:Qi F g=some true) (hx:ev F x=some v) (h:JO c Q m r ((d,v)::F) H):JO c Q m (⟨some d,.assign x,ty,g,.bg,ns⟩::r) F H :=
 ZE hd hg (fun a w fr=>by simp[execOp,fr.ev hx]) h
theorem Q0 {d:Tmp} {x:Operand} {v:Value} (h:JO c Q m r ((d,v)::F) H) (hd:Qw c.n (some d)=true:=by exact rfl) (hg:Qi F g=some true:=by exact rfl) (hx:ev F x=some v:=by exact rfl):JO c Q m (⟨some d,.assign x,ty,g,.bg,ns⟩::r) F H:=Qhr (hd:=hd) (hg:=hg) (hx:=hx) (h:=h)

theorem Qks {d:Tmp} {x y z:Operand} {v:Value} (hd:Qw c.n (some d)=true) (hg:Qi F g=some true) (hx:ev F x=some (.bool true)) (hy:ev F y=some v) (h:JO c Q m r ((d,v)::F) H):JO c Q m (⟨some d,.pick x y z,ty,g,.bg,ns⟩::r) F H :=
 ZE hd hg (fun a w fr=>by simp[execOp,fr.ev hx,fr.ev hy,asBool]) h
theorem Qp {d:Tmp} {x y z:Operand} {v:Value} (h:JO c Q m r ((d,v)::F) H) (hd:Qw c.n (some d)=true:=by exact rfl) (hg:Qi F g=some true:=by exact rfl) (hx:ev F x=some (.bool true):=by exact rfl) (hy:ev F y=some v:=by exact rfl):JO c Q m (⟨some d,.pick x y z,ty,g,.bg,ns⟩::r) F H:=Qks (hd:=hd) (hg:=hg) (hx:=hx) (hy:=hy) (h:=h)

theorem Qkt {d:Tmp} {x y z:Operand} {v:Value} (hd:Qw c.n (some d)=true) (hg:Qi F g=some true) (hx:ev F x=some (.bool false)) (hz:ev F z=some v) (h:JO c Q m r ((d,v)::F) H):JO c Q m (⟨some d,.pick x y z,ty,g,.bg,ns⟩::r) F H :=
 ZE hd hg (fun a w fr=>by simp[execOp,fr.ev hx,fr.ev hz,asBool]) h
theorem Qq {d:Tmp} {x y z:Operand} {v:Value} (h:JO c Q m r ((d,v)::F) H) (hd:Qw c.n (some d)=true:=by exact rfl) (hg:Qi F g=some true:=by exact rfl) (hx:ev F x=some (.bool false):=by exact rfl) (hz:ev F z=some v:=by exact rfl):JO c Q m (⟨some d,.pick x y z,ty,g,.bg,ns⟩::r) F H:=Qkt (hd:=hd) (hg:=hg) (hx:=hx) (hz:=hz) (h:=h)

theorem Qpg {d:Tmp} {x:Operand} {b:Bool} (hd:Qw c.n (some d)=true) (hg:Qi F g=some true) (hx:ev F x=some (.bool b)) {t:TypeId} (h:JO c Q m r ((d,(.bool (!b)))::F) H):JO c Q m (⟨some d,.unOp .not t x,ty,g,.bg,ns⟩::r) F H :=
 ZE hd hg (fun a w fr=>by simp[execOp,fr.ev hx,Op.unary]) h
theorem QG {d:Tmp} {x:Operand} {b:Bool} {t:TypeId} (h:JO c Q m r ((d,(.bool (!b)))::F) H) (hd:Qw c.n (some d)=true:=by exact rfl) (hg:Qi F g=some true:=by exact rfl) (hx:ev F x=some (.bool b):=by exact rfl):JO c Q m (⟨some d,.unOp .not t x,ty,g,.bg,ns⟩::r) F H:=Qpg (hd:=hd) (hg:=hg) (hx:=hx) (h:=h)

theorem Qu {d:Tmp} {x:Operand} {vs:Array Value} {i:Nat} {v:Value} (hd:Qw c.n (some d)=true:=by exact rfl) (hg:Qi F g=some true:=by exact rfl) (hx:ev F x=some (.tuple vs):=by exact rfl) (hv:vs[i]?=some v:=by exact rfl) (h:JO c Q m r ((d,v)::F) H) :
  JO c Q m (⟨some d,.extract x i,ty,g,.bg,ns⟩::r) F H :=
 ZE hd hg (fun a w fr=>by simp[execOp,fr.ev hx,Instr.extract,hv]) h

theorem ZF {d:Tmp} {op:BinOp} {t t':TypeId} {x y:Operand} {k:IntKind} {i j:Int} {v:Value} (hd:Qw c.n (some d)=true) (hg:Qi F g=some true) (hx:ev F x=some (.int k i)) (hy:ev F y=some (.int k j))
  (hr:∀ w,(binOp op t (.int k i) (.int k j)).run c.P w=.ok v w) (h:JO c Q m r ((d,v)::F) H):JO c Q m (⟨some d,.binOp op t x y t',ty,g,.bg,ns⟩::r) F H :=
 ZE hd hg (fun a w fr=>by simp[execOp,fr.ev hx,fr.ev hy,eqGuard_at_int,hr]) h

variable {t t':TypeId} {x y:Operand}

theorem in64 {n:Int} (h : -9223372036854775808≤n∧n≤9223372036854775807):IntKind.i64.wrap n=n:=Go.IntWalk.i64_in n h
theorem in64N {n:Nat} (h:n<9223372036854775808):IntKind.i64.wrap (n:Int)=n:=Go.IntWalk.i64_in n oq

theorem Q61 {d:Tmp} {i j:Int} (hd:Qw c.n (some d)=true:=by exact rfl) (hg:Qi F g=some true:=by exact rfl) (hx:ev F x=some (.int .i64 i):=by exact rfl) (hy:ev F y=some (.int .i64 j):=by exact rfl) (hb : -9223372036854775808≤i+j∧i+j≤9223372036854775807:=by omega)
  (h:JO c Q m r ((d,(.int .i64 (i+j)))::F) H):JO c Q m (⟨some d,.binOp .add t x y t',ty,g,.bg,ns⟩::r) F H :=
 ZF hd hg hx hy (fun w=>by rw[binOp_add];simp[Op.intArith,in64 hb]) h
theorem Z8 {d:Tmp} {i j:Nat} (hd:Qw c.n (some d)=true:=by exact rfl) (hg:Qi F g=some true:=by exact rfl) (hx:ev F x=some (.int .i64 i):=by exact rfl) (hy:ev F y=some (.int .i64 j):=by exact rfl) (hb:i+j<9223372036854775808:=by omega)
  (h:JO c Q m r ((d,(.int .i64 ((i+j:Nat):Int)))::F) H):JO c Q m (⟨some d,.binOp .add t x y t',ty,g,.bg,ns⟩::r) F H :=
 ZF hd hg hx hy (fun w=>by rw[binOp_add];simp only[Op.intArith, ← Int.natCast_add,in64N hb,Sem.run_pure]) h
theorem X3 {d:Tmp} {i j:Int} (hd:Qw c.n (some d)=true:=by exact rfl) (hg:Qi F g=some true:=by exact rfl) (hx:ev F x=some (.int .i64 i):=by exact rfl) (hy:ev F y=some (.int .i64 j):=by exact rfl) (hb : -9223372036854775808≤i-j∧i-j≤9223372036854775807:=by omega)
  (h:JO c Q m r ((d,(.int .i64 (i-j)))::F) H):JO c Q m (⟨some d,.binOp .sub t x y t',ty,g,.bg,ns⟩::r) F H :=
 ZF hd hg hx hy (fun w=>by rw[binOp_sub];simp[Op.intArith,in64 hb]) h
theorem WQ {d:Tmp} {i j:Nat} (hd:Qw c.n (some d)=true:=by exact rfl) (hg:Qi F g=some true:=by exact rfl) (hx:ev F x=some (.int .i64 i):=by exact rfl) (hy:ev F y=some (.int .i64 j):=by exact rfl) (hb:j≤i∧i<9223372036854775808:=by omega)
  (h:JO c Q m r ((d,(.int .i64 ((i-j:Nat):Int)))::F) H):JO c Q m (⟨some d,.binOp .sub t x y t',ty,g,.bg,ns⟩::r) F H :=
 ZF hd hg hx hy (fun w=>by
  have:(i:Int)-j=((i-j:Nat):Int):=by omega
  rw[binOp_sub];simp only[Op.intArith,this,in64N (show i-j<9223372036854775808 by omega),Sem.run_pure]) h
theorem Qc8 {d:Tmp} {i j:Int} (hd:Qw c.n (some d)=true:=by exact rfl) (hg:Qi F g=some true:=by exact rfl) (hx:ev F x=some (.int .i64 i):=by exact rfl) (hy:ev F y=some (.int .i64 j):=by exact rfl) (hb : -9223372036854775808≤i*j∧i*j≤9223372036854775807:=by(first|assumption|omega))
  (h:JO c Q m r ((d,(.int .i64 (i*j)))::F) H):JO c Q m (⟨some d,.binOp .mul t x y t',ty,g,.bg,ns⟩::r) F H :=
 ZF hd hg hx hy (fun w=>by rw[binOp_mul];simp[Op.intArith,in64 hb]) h
theorem Z1 {d:Tmp} {i j:Nat} (hd:Qw c.n (some d)=true:=by exact rfl) (hg:Qi F g=some true:=by exact rfl) (hx:ev F x=some (.int .i64 i):=by exact rfl) (hy:ev F y=some (.int .i64 j):=by exact rfl) (hb:i*j<9223372036854775808:=by(first|assumption|omega))
  (h:JO c Q m r ((d,(.int .i64 ((i*j:Nat):Int)))::F) H):JO c Q m (⟨some d,.binOp .mul t x y t',ty,g,.bg,ns⟩::r) F H :=
 ZF hd hg hx hy (fun w=>by rw[binOp_mul];simp only[Op.intArith, ← Int.natCast_mul,in64N hb,Sem.run_pure]) h
theorem W6 {d:Tmp} {i j:Nat} (hd:Qw c.n (some d)=true:=by exact rfl) (hg:Qi F g=some true:=by exact rfl) (hx:ev F x=some (.int .i64 i):=by exact rfl) (hy:ev F y=some (.int .i64 j):=by exact rfl) (hb:0<j:=by omega)
  (h:JO c Q m r ((d,(.int .i64 ((i % j:Nat):Int)))::F) H):JO c Q m (⟨some d,.binOp .rem t x y t',ty,g,.bg,ns⟩::r) F H :=
 ZF hd hg hx hy (fun w=>by
  have h0:¬((j:Int)=0):=by omega
  rw[binOp_rem];simp only[Op.intDiv,h0,if_false,Sem.run_pure,Int.ofNat_tmod]) h
theorem Qpi {d:Tmp} {i j:Int} (hd:Qw c.n (some d)=true:=by exact rfl) (hg:Qi F g=some true:=by exact rfl) (hx:ev F x=some (.int .i64 i):=by exact rfl) (hy:ev F y=some (.int .i64 j):=by exact rfl) (hb:j≠0:=by omega)
  (h:JO c Q m r ((d,(.int .i64 (i.tmod j)))::F) H):JO c Q m (⟨some d,.binOp .rem t x y t',ty,g,.bg,ns⟩::r) F H :=
 ZF hd hg hx hy (fun w=>by rw[binOp_rem];simp only[Op.intDiv,hb,if_false,Sem.run_pure]) h
theorem W8 {d:Tmp} {i j:Nat} (hd:Qw c.n (some d)=true:=by exact rfl) (hg:Qi F g=some true:=by exact rfl) (hx:ev F x=some (.int .i64 i):=by exact rfl) (hy:ev F y=some (.int .i64 j):=by exact rfl) (hb:0<j∧i<9223372036854775808:=by omega)
  (h:JO c Q m r ((d,(.int .i64 ((i / j:Nat):Int)))::F) H):JO c Q m (⟨some d,.binOp .quo t x y t',ty,g,.bg,ns⟩::r) F H :=
 ZF hd hg hx hy (fun w=>by
  have h0:¬((j:Int)=0):=by omega
  have h1:i / j<9223372036854775808:=V5 (Nat.div_le_self _ _) hb.2
  rw[binOp_quo];simp only[Op.intDiv,h0,if_false, ← Int.ofNat_tdiv,in64N h1,Sem.run_pure]) h
theorem Qc9 {d:Tmp} {op:BinOp} {k:IntKind} {i j:Int} {p:Prop} [Decidable p] (hd:Qw c.n (some d)=true) (hg:Qi F g=some true) (hx:ev F x=some (.int k i)) (hy:ev F y=some (.int k j))
  (hr:∀ w,(binOp op t (.int k i) (.int k j)).run c.P w=.ok (.bool (decide p)) w) (h1:p→JO c Q m r ((d,(.bool true))::F) H) (h2:¬p→JO c Q m r ((d,(.bool false))::F) H) :
  JO c Q m (⟨some d,.binOp op t x y t',ty,g,.bg,ns⟩::r) F H:=by
 by_cases hp:p
 ·exact ZF hd hg hx hy (fun w=>by rw[hr w,decide_eq_true hp]) (h1 hp)
 ·exact ZF hd hg hx hy (fun w=>by rw[hr w,decide_eq_false hp]) (h2 hp)

theorem Qg {d:Tmp} {k:IntKind} {i j:Int} (hd:Qw c.n (some d)=true:=by exact rfl) (hg:Qi F g=some true:=by exact rfl) (hx:ev F x=some (.int k i):=by exact rfl) (hy:ev F y=some (.int k j):=by exact rfl)
  (h1:i<j→JO c Q m r ((d,(.bool true))::F) H) (h2:¬i<j→JO c Q m r ((d,(.bool false))::F) H):JO c Q m (⟨some d,.binOp .lss t x y t',ty,g,.bg,ns⟩::r) F H :=
 Qc9 hd hg hx hy (fun w=>by rw[binOp_lss];rfl) h1 h2
theorem Xo {d:Tmp} {k:IntKind} {i j:Int} (hd:Qw c.n (some d)=true:=by exact rfl) (hg:Qi F g=some true:=by exact rfl) (hx:ev F x=some (.int k i):=by exact rfl) (hy:ev F y=some (.int k j):=by exact rfl)
  (h1:i≤j→JO c Q m r ((d,(.bool true))::F) H) (h2:¬i≤j→JO c Q m r ((d,(.bool false))::F) H):JO c Q m (⟨some d,.binOp .leq t x y t',ty,g,.bg,ns⟩::r) F H :=
 Qc9 hd hg hx hy (fun w=>by rw[binOp_leq];rfl) h1 h2
theorem QU {d:Tmp} {k:IntKind} {i j:Int} (hd:Qw c.n (some d)=true:=by exact rfl) (hg:Qi F g=some true:=by exact rfl) (hx:ev F x=some (.int k i):=by exact rfl) (hy:ev F y=some (.int k j):=by exact rfl)
  (h1:j<i→JO c Q m r ((d,(.bool true))::F) H) (h2:¬j<i→JO c Q m r ((d,(.bool false))::F) H):JO c Q m (⟨some d,.binOp .gtr t x y t',ty,g,.bg,ns⟩::r) F H :=
 Qc9 hd hg hx hy (fun w=>by rw[binOp_gtr];rfl) h1 h2
theorem Zs {d:Tmp} {k:IntKind} {i j:Int} (hd:Qw c.n (some d)=true:=by exact rfl) (hg:Qi F g=some true:=by exact rfl) (hx:ev F x=some (.int k i):=by exact rfl) (hy:ev F y=some (.int k j):=by exact rfl)
  (h1:j≤i→JO c Q m r ((d,(.bool true))::F) H) (h2:¬j≤i→JO c Q m r ((d,(.bool false))::F) H):JO c Q m (⟨some d,.binOp .geq t x y t',ty,g,.bg,ns⟩::r) F H :=
 Qc9 hd hg hx hy (fun w=>by rw[binOp_geq];rfl) h1 h2
theorem Zm {d:Tmp} {k:IntKind} {i j:Int} (hd:Qw c.n (some d)=true:=by exact rfl) (hg:Qi F g=some true:=by exact rfl) (hx:ev F x=some (.int k i):=by exact rfl) (hy:ev F y=some (.int k j):=by exact rfl)
  (h1:i=j→JO c Q m r ((d,(.bool true))::F) H) (h2:¬i=j→JO c Q m r ((d,(.bool false))::F) H):JO c Q m (⟨some d,.binOp .eql t x y t',ty,g,.bg,ns⟩::r) F H :=
 Qc9 hd hg hx hy (fun w=>by rw[binOp_eql];simp only[Sem.run_pure];congr 2) h1 h2
theorem ZP {d:Tmp} {k:IntKind} {i j:Int} (hd:Qw c.n (some d)=true:=by exact rfl) (hg:Qi F g=some true:=by exact rfl) (hx:ev F x=some (.int k i):=by exact rfl) (hy:ev F y=some (.int k j):=by exact rfl)
  (h1:i≠j→JO c Q m r ((d,(.bool true))::F) H) (h2:i=j→JO c Q m r ((d,(.bool false))::F) H):JO c Q m (⟨some d,.binOp .neq t x y t',ty,g,.bg,ns⟩::r) F H :=
 Qc9 (p:=i≠j) hd hg hx hy (fun w=>by
  rw[binOp_neq];simp only[Sem.run_pure]
  congr 2
  by_cases h:i=j<;>simp[h,bne]) h1 (fun h=>h2 (Decidable.not_not.1 h))

theorem Q2h {P:Program} (n:Nat) {t:TypeId} (ht:P.underlying t=some .bool) (a b:Bool) (w:World):(Op.equalIn (n+1) t (.bool a) (.bool b)).run P w=.ok (a == b) w:=by
 simp[Op.equalIn,run_underlying ht]
theorem WO {P:Program} {t:TypeId} (ht:P.underlying t=some .bool) (a b:Bool) (w:World):(Op.equal t (.bool a) (.bool b)).run P w=.ok (a == b) w:=Q2h 9999 ht a b w

theorem Ql1 {d:Tmp} {b b':Bool} [TB c.P t] (hd:Qw c.n (some d)=true:=by exact rfl) (hg:Qi F g=some true:=by exact rfl) (hx:ev F x=some (.bool b):=by exact rfl) (hy:ev F y=some (.bool b'):=by exact rfl) (h:JO c Q m r ((d,(.bool (b == b')))::F) H) :
  JO c Q m (⟨some d,.binOp .eql t x y t',ty,g,.bg,ns⟩::r) F H :=
 ZE hd hg (fun a w fr=>by
  simp only[execOp,fr.ev hx,fr.ev hy,eqGuard_at_bool,binOp]
  simp only[Sem.run_bind,Sem.run_pure,Result.andThen_ok,WO (TB.und (P:=c.P) (t:=t))]) h
theorem Q0b {d:Tmp} {b b':Bool} [TB c.P t] (hd:Qw c.n (some d)=true:=by exact rfl) (hg:Qi F g=some true:=by exact rfl) (hx:ev F x=some (.bool b):=by exact rfl) (hy:ev F y=some (.bool b'):=by exact rfl) (h:JO c Q m r ((d,(.bool (b != b')))::F) H) :
  JO c Q m (⟨some d,.binOp .neq t x y t',ty,g,.bg,ns⟩::r) F H :=
 ZE hd hg (fun a w fr=>by
  simp only[execOp,fr.ev hx,fr.ev hy,eqGuard_at_bool,binOp]
  simp only[Sem.run_bind,Sem.run_pure,Result.andThen_ok,WO (TB.und (P:=c.P) (t:=t)),bne]) h

theorem ZD (b o n:Nat):Addr.add ⟨b,o,none⟩ n=⟨b,o+n,none⟩:=Addr.add_lit b o n

theorem Q3q {d:Tmp} {s:TypeId} {f off:Nat} [FA c.P s f off] {b o:Nat} (hd:Qw c.n (some d)=true) (hg:Qi F g=some true) (hx:ev F x=some (.pointer (some ⟨b,o,none⟩)))
  (h:JO c Q m r ((d,(.pointer (some ⟨b,o+off,none⟩)))::F) H):JO c Q m (⟨some d,.fieldAddr s x f,ty,g,.bg,ns⟩::r) F H :=
 ZE hd hg (fun a w fr=>by
  simp only[execOp,fr.ev hx,Sem.run_bind,FA.run,Result.andThen_ok,Sem.run_pure,ZD]) h
theorem Q2 {d:Tmp} {s:TypeId} {f off:Nat} [FA c.P s f off] {b o:Nat} (h:JO c Q m r ((d,(.pointer (some ⟨b,o+off,none⟩)))::F) H) (hd:Qw c.n (some d)=true:=by exact rfl) (hg:Qi F g=some true:=by exact rfl) (hx:ev F x=some (.pointer (some ⟨b,o,none⟩)):=by exact rfl):JO c Q m (⟨some d,.fieldAddr s x f,ty,g,.bg,ns⟩::r) F H:=Q3q (hd:=hd) (hg:=hg) (hx:=hx) (h:=h)

theorem Z4 {w:World} {b o:Nat} {cs:Array Value} {T:TypeId} {fz:Nat × Nat} {v:Value} (h:w.heap[b]?=some (.cells cs T fz)) (hv:cs[o]?=some v):w.cell? ⟨b,o,none⟩=some v:=by
 simp[World.cell?,h,hv]

theorem Q3f {P:Program} {t:TypeId} [T1 P t] {w:World} {p:Addr} {v:Value} (h:w.cell? p=some v):(Instr.loadAt t (.pointer (some p))).run P w=.ok v w:=by
 simp only[Instr.loadAt,Instr.sureAddr,loadVar,Sem.run_bind,Sem.run_pure,Result.andThen_ok,T1.agg,Bool.false_eq_true,if_false]
 simp[h]

theorem Q0t {P:Program} {w:World} {b:Nat}:∀ (n o i:Nat) (acc vs:Array Value),vs.size=n→(∀ j,j<n→w.cell? ⟨b,o+(i+j),none⟩=vs[j]?) →
  (loadCellsFrom ⟨b,o,none⟩ i n acc).run P w=.ok (acc++vs) w
 | 0,o,i,acc,vs,hs,_=>by
  have:vs=#[]:=Array.eq_empty_of_size_eq_zero hs
  simp[loadCellsFrom,this]
 | n + 1, o, i, acc, vs, hs, hc => by
  have h0:=hc 0 oq
  have hlt:0<vs.size:=by omega
  rw[Array.getElem?_eq_getElem hlt]at h0
  simp only[loadCellsFrom,ZD,Sem.run_bind]
  rw[show o+(i+0)=o+i from by omega]at h0
  have hl:(load (⟨b,o+i,none⟩:Addr)).run P w=.ok vs[0] w:=by simp[h0]
  rw[hl]
  simp only[Result.andThen_ok]
  rw[Q0t n o (i+1) _ (vs.extract 1 (n+1)) (by simp;omega) (fun j hj=>by
   have:=hc (j+1) oq
   rw[show o+(i+1+j)=o+(i+(j+1)) from by omega,this]
   rw[Array.getElem?_extract]
   simp[Nat.add_comm];omega)]
  congr 1
  apply Array.ext
  ·simp;omega
  ·intro k h1 h2
   simp only[Array.getElem_append,Array.size_push,Array.getElem_push]
   by_cases hk:k<acc.size
   ·simp[hk,Nat.lt_succ_of_lt hk]
   ·by_cases hk2:k=acc.size
    ·subst hk2;simp
    ·have:¬k<acc.size+1:=by omega
     simp only[this,dif_neg,not_false_eq_true,hk]
     simp only[Array.getElem_extract]
     congr 1;omega

theorem Q0s {P:Program} {t:TypeId} {n:Nat} [TN P t n] {w:World} {b o:Nat} {vs:Array Value} (hs:vs.size=n) (h:∀ j,j<n→w.cell? ⟨b,o+j,none⟩=vs[j]?) :
  (Instr.loadAt t (.pointer (some ⟨b,o,none⟩))).run P w=.ok (.agg vs) w:=by
 simp only[Instr.loadAt,Instr.sureAddr,loadVar,loadCells,Sem.run_bind,Sem.run_pure,Result.andThen_ok,TN.agg,TN.size (t:=t) (n:=n),if_true]
 rw[Q0t n o 0 #[] vs hs (fun j hj=>by rw[Vq];exact h j hj)]
 simp

theorem r_ld {op:Op} {v:Value} (hd:Qw c.n d=true) (hg:Qi F g=some true) (hl:m.live=true) (hr:∀ a w,dQ c.n F a→Src c (m.src H) w→(execOp a.eval ⟨d,op,ty, "",#[],none⟩).run c.P w=.ok (.value v) w)
  (h:JO c Q m r (dN F d v) H):JO c Q m (⟨d,op,ty,g,.ld,ns⟩::r) F H:=⟨⟨hd,.inr ⟨hg,hl,v,hr,h.h⟩⟩⟩

theorem Q5t {w:World} {S:aj} (h:Src c S w) {k:Nat} {b o:Nat} {cs:Array Value} {T:TypeId} {fz:Nat × Nat} {v:Value} (hb:S[k]?=some (b,.cells cs T fz)) (hv:cs[o]?=some v):w.cell? ⟨b,o,none⟩=some v :=
 Z4 (h.2.blk _ (List.mem_of_getElem? hb)) hv

theorem Yt {w:World} {p:Addr} {v:Value} (h:w.cell? p=some v):p.block<w.heap.size:=by
 unfold World.cell? at h
 cases hb:w.heap[p.block]? with
 | none=>rw[hb]at h;cases h
 | some o=>exact(Array.getElem?_eq_some_iff.1 hb).1

theorem Qal {w:World} (h:Kp c.M c.w0 w) {p:Addr} {v:Value} (hc:c.w0.cell? p=some v) (hm:p.block∉c.M):w.cell? p=some v:=by
 have:=h.block p.block (Yt hc) hm
 unfold World.cell? at hc ⊢
 rw[this];exact hc

theorem Q7h {d:Tmp} {b o:Nat} (k:Nat) {cs:Array Value} {T:TypeId} {fz:Nat × Nat} {v:Value} [T1 c.P t] (hd:Qw c.n (some d)=true) (hg:Qi F g=some true) (hx:ev F x=some (.pointer (some ⟨b,o,none⟩))) (hl:m.live=true)
  (hb:(m.src H)[k]?=some (b,.cells cs T fz)) (hv:cs[o]?=some v) (h:JO c Q m r ((d,v)::F) H):JO c Q m (⟨some d,.load t x,ty,g,.ld,ns⟩::r) F H :=
 r_ld hd hg hl (fun a w fr hs=>by simp only[execOp,fr.ev hx,Sem.run_bind,Q3f (Q5t hs hb hv),Result.andThen_ok,Sem.run_pure]) h
theorem Q7 {d:Tmp} {b o:Nat} {k:Nat} {cs:Array Value} {T:TypeId} {fz:Nat × Nat} {v:Value} [T1 c.P t] (h:JO c Q m r ((d,v)::F) H) (hd:Qw c.n (some d)=true:=by exact rfl) (hg:Qi F g=some true:=by exact rfl) (hx:ev F x=some (.pointer (some ⟨b,o,none⟩)):=by exact rfl) (hl:m.live=true:=by exact rfl) (hb:(m.src H)[k]?=some (b,.cells cs T fz):=by(first|exact at0|exact at1|exact at2|exact at3|exact at4|exact at5|exact at6|exact at7|exact at8|exact at9)) (hv:cs[o]?=some v:=by exact rfl):JO c Q m (⟨some d,.load t x,ty,g,.ld,ns⟩::r) F H:=Q7h (k:=k) (hd:=hd) (hg:=hg) (hx:=hx) (hl:=hl) (hb:=hb) (hv:=hv) (h:=h)

theorem Qkw {d:Tmp} {b n:Nat} (k:Nat) {cs:Array Value} {T:TypeId} {fz:Nat × Nat} [TN c.P t n] (hd:Qw c.n (some d)=true) (hg:Qi F g=some true) (hx:ev F x=some (.pointer (some ⟨b,0,none⟩))) (hl:m.live=true)
  (hb:(m.src H)[k]?=some (b,.cells cs T fz)) (hn:cs.size=n) (h:JO c Q m r ((d,(.agg cs))::F) H):JO c Q m (⟨some d,.load t x,ty,g,.ld,ns⟩::r) F H :=
 r_ld hd hg hl (fun a w fr hs=>by
  have:=Q0s (P:=c.P) (t:=t) (n:=n) (w:=w) (b:=b) (o:=0) (vs:=cs) hn (fun j hj=>by
   have hj':j<cs.size:=by omega
   rw[Vq,Array.getElem?_eq_getElem hj']
   exact Q5t hs hb (Array.getElem?_eq_getElem hj'))
  simp only[execOp,fr.ev hx,Sem.run_bind,this,Result.andThen_ok,Sem.run_pure]) h
theorem Qm {d:Tmp} {b n:Nat} {k:Nat} {cs:Array Value} {T:TypeId} {fz:Nat × Nat} [TN c.P t n] (h:JO c Q m r ((d,(.agg cs))::F) H) (hd:Qw c.n (some d)=true:=by exact rfl) (hg:Qi F g=some true:=by exact rfl) (hx:ev F x=some (.pointer (some ⟨b,0,none⟩)):=by exact rfl) (hl:m.live=true:=by exact rfl) (hb:(m.src H)[k]?=some (b,.cells cs T fz):=by(first|exact at0|exact at1|exact at2|exact at3|exact at4|exact at5|exact at6|exact at7|exact at8|exact at9)) (hn:cs.size=n:=by exact rfl):JO c Q m (⟨some d,.load t x,ty,g,.ld,ns⟩::r) F H:=Qkw (k:=k) (hd:=hd) (hg:=hg) (hx:=hx) (hl:=hl) (hb:=hb) (hn:=hn) (h:=h)

theorem Qkx {d:Tmp} {b o n:Nat} (k:Nat) {cs vs:Array Value} {T:TypeId} {fz:Nat × Nat} [TN c.P t n] (hd:Qw c.n (some d)=true) (hg:Qi F g=some true) (hx:ev F x=some (.pointer (some ⟨b,o,none⟩))) (hl:m.live=true)
  (hb:(m.src H)[k]?=some (b,.cells cs T fz)) (hn:vs.size=n) (hv:∀ j,j<n→cs[o+j]?=vs[j]?) (h:JO c Q m r ((d,(.agg vs))::F) H):JO c Q m (⟨some d,.load t x,ty,g,.ld,ns⟩::r) F H :=
 r_ld hd hg hl (fun a w fr hs=>by
  have:=Q0s (P:=c.P) (t:=t) (n:=n) (w:=w) (b:=b) (o:=o) (vs:=vs) hn (fun j hj=>by
   have hj':j<vs.size:=by omega
   have:=hv j hj
   rw[Array.getElem?_eq_getElem hj']at this ⊢
   exact Q5t hs hb this)
  simp only[execOp,fr.ev hx,Sem.run_bind,this,Result.andThen_ok,Sem.run_pure]) h
theorem Q8t {P:Program} {t e:TypeId} {sz:Nat} [dh P t e] [dS P e sz] (b o len cap:Nat) (k:IntKind) (j:Nat) (hj:j<len) (w:World) :
  (Instr.indexAt t (.slice (some ⟨b,o,none⟩) len cap) (.int k j)).run P w=.ok (.pointer (some ⟨b,o+j*sz,none⟩)) w:=by
 have h1:(0:Int)≤j∧(j:Int)<len:=by omega
 simp only[Instr.indexAt,asIntOf,Sem.run_bind,Sem.run_pure,Result.andThen_ok,run_underlying (dh.und (P:=P) (t:=t)),h1,and_self,if_true,dS.size (e:=e) (n:=sz),Int.toNat_natCast,ZD]

theorem Zh {d:Tmp} {e:TypeId} {sz b o len cap j:Nat} {A:Option Addr} {k:IntKind} [dh c.P t e] [dS c.P e sz] (hd:Qw c.n (some d)=true) (hg:Qi F g=some true) (hx:ev F x=some (.slice A len cap)) (hA:0<len→A=some ⟨b,o,none⟩) (hy:ev F y=some (.int k j)) (hj:j<len)
  (h:JO c Q m r ((d,(.pointer (some ⟨b,o+j*sz,none⟩)))::F) H):JO c Q m (⟨some d,.indexAddr t x y,ty,g,.bg,ns⟩::r) F H:=by
 have hA':=hA oq
 subst hA'
 exact ZE hd hg (fun a w fr=>by simp only[execOp,fr.ev hx,fr.ev hy,Sem.run_bind,Q8t b o len cap k j hj,Result.andThen_ok,Sem.run_pure]) h
theorem Qhl {d:Tmp} {e:TypeId} {b o len cap j:Nat} {A:Option Addr} {k:IntKind} [dh c.P t e] [dS c.P e 1] (hd:Qw c.n (some d)=true) (hg:Qi F g=some true) (hx:ev F x=some (.slice A len cap)) (hA:0<len→A=some ⟨b,o,none⟩) (hy:ev F y=some (.int k j)) (hj:j<len)
  (h:JO c Q m r ((d,(.pointer (some ⟨b,o+j,none⟩)))::F) H):JO c Q m (⟨some d,.indexAddr t x y,ty,g,.bg,ns⟩::r) F H :=
 Zh hd hg hx hA hy hj (by rw[Nat.mul_one];exact h)

theorem Qkp {P:Program} {t e ty:TypeId} [dh P t e] (b:Option Addr) (len cap:Nat) (w:World):(Builtin.len_ #[t] ty #[.slice b len cap]).run P w=.ok (.int .i64 len) w:=by
 simp[Builtin.len_,run_underlying (dh.und (P:=P) (t:=t)),goInt]

theorem ZC {d:Tmp} {e:TypeId} {b:Option Addr} {len cap:Nat} [dh c.P t e] (hd:Qw c.n (some d)=true:=by exact rfl) (hg:Qi F g=some true:=by exact rfl) (hx:ev F x=some (.slice b len cap):=by exact rfl)
  (h:JO c Q m r ((d,(.int .i64 len))::F) H):JO c Q m (⟨some d,.call ⟨.builtin .len,#[x],#[t]⟩,ty,g,.bg,ns⟩::r) F H :=
 ZE hd hg (fun a w fr=>by
  simp only[execOp,resolve,Sem.run_bind,Sem.run_pure,Result.andThen_ok,invoke,builtin,Array.map,List.map_toArray,List.map_cons,List.map_nil,fr.ev hx]
  have:(#[x].map a.eval)=#[Value.slice b len cap]:=by simp[fr.ev hx]
  simp[fr.ev hx,Qkp]) h

theorem Q1p {d:Tmp} {i j:Int} {k:IntKind} {ts:Array TypeId} (hd:Qw c.n (some d)=true:=by exact rfl) (hg:Qi F g=some true:=by exact rfl) (hx:ev F x=some (.int k i):=by exact rfl) (hy:ev F y=some (.int k j):=by exact rfl)
  (h:JO c Q m r ((d,(.int k (if j<i then j else i)))::F) H):JO c Q m (⟨some d,.call ⟨.builtin .min,#[x,y],ts⟩,ty,g,.bg,ns⟩::r) F H :=
 ZE hd hg (fun a w fr=>by
  simp[execOp,resolve,invoke,builtin,fr.ev hx,fr.ev hy,Builtin.min_,Builtin.min2]) h
theorem Q8w {d:Tmp} {i j:Int} {k:IntKind} {ts:Array TypeId} (hd:Qw c.n (some d)=true:=by exact rfl) (hg:Qi F g=some true:=by exact rfl) (hx:ev F x=some (.int k i):=by exact rfl) (hy:ev F y=some (.int k j):=by exact rfl)
  (h:JO c Q m r ((d,(.int k (if i<j then j else i)))::F) H):JO c Q m (⟨some d,.call ⟨.builtin .max,#[x,y],ts⟩,ty,g,.bg,ns⟩::r) F H :=
 ZE hd hg (fun a w fr=>by
  simp[execOp,resolve,invoke,builtin,fr.ev hx,fr.ev hy,Builtin.max_,Builtin.max2]) h

end

class TAr (P:Program) (t:TypeId) (n e:outParam Nat):Prop where
 und:P.underlying t=some (.array n e)
class TZ0 (P:Program) (t:TypeId) (zc:outParam (Array Value)):Prop where
 zero:∃ z,(P.info? t).bind (·.zero)=some z∧z.cells=zc
class TE (P:Program) (e:TypeId) (sz bytes:outParam Nat) (zc:outParam (Array Value)):Prop where
 info:∃ i z,P.info? e=some i∧i.size=sz∧i.bytes=bytes∧i.zero=some z∧z.cells=zc
class TSt (P:Program) (t:TypeId) (zc:outParam (Array Value)) (places:outParam (Array (Nat × Nat))):Prop where
 run:∀ parts w,(Instr.build t parts).run P w=(match Instr.fill (places[·]?) zc parts.toList with|some cs=>.ok (.agg cs) w|none=>.halt (.stuck "build: no such field, or a part of the wrong size") w)

theorem TZ0.mk' {P:Program} {t:TypeId} {z:Value} (h:(P.info? t).bind (·.zero)=some z):TZ0 P t z.cells:=⟨z,h,rfl⟩
theorem TE.mk' {P:Program} {t:TypeId} {z:Value} {a b:Nat} (h:(P.info? t).map (fun i=>(i.size,i.bytes,i.zero))=some (a,b,some z)):TE P t a b z.cells:=by
 cases hi:P.info? t with
 | none=>rw[hi]at h;cases h
 | some i =>
  rw[hi]at h
  simp only[Option.map_some,Option.some.injEq,Prod.mk.injEq]at h
  exact⟨i,z,hi,h.1,h.2.1,h.2.2,rfl⟩

theorem Q4y {P:Program} {w:World}:∀ {fs:List Field} {pl:List (Nat × Nat)},(fs.map fun f=>(P.info? f.type).map fun i=>(f.offset,i.size))=pl.map some →
  (fs.mapM (m:=Sem) fun f=>do pure (f.offset, ← sizeOf f.type)).run P w=.ok pl w
 | [],[],_=>rfl
 | f :: fs, p :: pl, h => by
  simp only[List.map_cons,List.cons.injEq]at h
  have h1:(do pure (f.offset, ← sizeOf f.type):Sem (Nat × Nat)).run P w=.ok p w:=by
   unfold sizeOf typeInfo
   cases hi:P.info? f.type with
   | none=>rw[hi]at h;cases h.1
   | some i=>rw[hi]at h;simp only[Option.map_some,Option.some.injEq]at h;simp[hi,h.1]
  rw[List.mapM_cons,Sem.run_bind,h1]
  simp only[Result.andThen_ok,Sem.run_bind,Q4y h.2,Sem.run_pure]
 | [],_::_,h=>by cases h
 | _::_,[],h=>by cases h

theorem TSt.mk' {P:Program} {t:TypeId} {fs:Array Field} {z:Value} {pl:Array (Nat × Nat)} (hu:P.underlying t=some (.struct fs)) (hz:(P.info? t).bind (·.zero)=some z)
  (hp:(fs.toList.map fun f=>(P.info? f.type).map fun i=>(f.offset,i.size))=pl.toList.map some):TSt P t z.cells pl:=by
 refine⟨fun parts w=>?_⟩
 have h1:(fs.mapM (m:=Sem) fun f=>do pure (f.offset, ← sizeOf f.type)).run P w=.ok pl w:=by
  rw[Array.mapM_eq_mapM_toList,Sem.run_map,Q4y hp]
  rfl
 have h2:(zeroValue t).run P w=.ok z w:=by
  unfold zeroValue typeInfo
  cases hi:P.info? t with
  | none=>rw[hi]at hz;cases hz
  | some i=>rw[hi]at hz;simp only[Option.bind_some]at hz;simp[hi,hz]
 simp only[Instr.build,Sem.run_bind,h2,Result.andThen_ok,run_underlying hu,h1]
 cases Instr.fill (fun x=>pl[x]?) z.cells parts.toList<;>simp

def Zy (F:ak):List Operand→Option (List Value)
 | []=>some []
 | x::r=>match ev F x,Zy F r with
  | some v,some vs=>some (v::vs)
  | _,_=>none

def Xs (F:ak):List (Nat × Operand)→Option (List (Nat × Value))
 | []=>some []
 | (i,x)::r=>match ev F x,Xs F r with
  | some v,some vs=>some ((i,v)::vs)
  | _,_=>none

theorem Yv {n:Nat} {F:ak} {a:Act} (h:dQ n F a):∀ {xs:List Operand} {vs:List Value},Zy F xs=some vs→xs.map a.eval=vs
 | [],vs,hv=>by simp only[Zy,Option.some.injEq]at hv;simp[← hv]
 | x :: r, vs, hv => by
  simp only[Zy]at hv
  split at hv
  ·rename_i v vs' h1 h2
   simp only[Option.some.injEq]at hv
   rw[← hv,List.map_cons,h.ev h1,Yv h h2]
  ·cases hv

theorem XT {n:Nat} {F:ak} {a:Act} (h:dQ n F a):∀ {xs:List (Nat × Operand)} {vs:List (Nat × Value)},Xs F xs=some vs→xs.map (fun(i,x)=>(i,a.eval x))=vs
 | [],vs,hv=>by simp only[Xs,Option.some.injEq]at hv;simp[← hv]
 | (i, x) :: r, vs, hv => by
  simp only[Xs]at hv
  split at hv
  ·rename_i v vs' h1 h2
   simp only[Option.some.injEq]at hv
   have h3:=XT h h2
   have h4:=h.ev h1
   subst hv
   rw[List.map_cons,h3]
   simp only[h4]
  ·cases hv

section
variable {c:Cx} {Q:Exit→Act→World→Prop} {m:Mode} {F:ak} {H:aj} {r:List bT} {g:Option (Option Tmp × Bool)} {ns:Bool} {d:Option Tmp} {ty t t':TypeId} {x y:Operand}

theorem Q1t {op:Op} {obj:Obj} {mk:Nat→Value} (hd:Qw c.n d=true) (hg:Qi F g=some true) (hl:m.live=true) (ha:∀ a,dQ c.n F a→ZI c.P op a.eval=some (obj,mk))
  (h:∀ b,JO c Q m r (dN F d (mk b)) ((b,obj)::H)):JO c Q m (⟨d,op,ty,g,.alloc,ns⟩::r) F H:=⟨⟨hd,.inr ⟨hg,hl,obj,mk,ha,fun b _=>(h b).h⟩⟩⟩

theorem Qhs {d:Tmp} {zc:Array Value} [TZ0 c.P t zc] (hd:Qw c.n (some d)=true) (hg:Qi F g=some true) (hl:m.live=true) (h:∀ b,JO c Q m r ((d,(.pointer (some ⟨b,0,none⟩)))::F) ((b,.cells zc t)::H)) :
  JO c Q m (⟨some d,.alloc t,ty,g,.alloc,ns⟩::r) F H :=
 Q1t (mk:=fun b=>.pointer (some ⟨b,0,none⟩)) hd hg hl (fun a _=>by
  obtain⟨z,h1,h2⟩:=TZ0.zero (P:=c.P) (t:=t) (zc:=zc)
  simp only[ZI,h1,h2]) h
theorem Qh {d:Tmp} {zc:Array Value} [TZ0 c.P t zc] (h:∀ b,JO c Q m r ((d,(.pointer (some ⟨b,0,none⟩)))::F) ((b,.cells zc t)::H)) (hd:Qw c.n (some d)=true:=by exact rfl) (hg:Qi F g=some true:=by exact rfl) (hl:m.live=true:=by exact rfl):JO c Q m (⟨some d,.alloc t,ty,g,.alloc,ns⟩::r) F H:=Qhs (hd:=hd) (hg:=hg) (hl:=hl) (h:=h)

theorem Ql4 {d:Tmp} {v:Value} {cs:Array Value} (hd:Qw c.n (some d)=true:=by exact rfl) (hg:Qi F g=some true:=by exact rfl) (hx:ev F x=some v:=by exact rfl) (hl:m.live=true:=by exact rfl) (hc:v.cells=cs:=by exact rfl) (h:∀ b,JO c Q m r ((d,(.pointer (some ⟨b,0,none⟩)))::F) ((b,.cells cs t)::H)) :
  JO c Q m (⟨some d,.box t x,ty,g,.alloc,ns⟩::r) F H :=
 Q1t (mk:=fun b=>.pointer (some ⟨b,0,none⟩)) hd hg hl (fun a fr=>by simp only[ZI,fr.ev hx,hc]) h

theorem Zw {d:Tmp} {zc cs:Array Value} {places:Array (Nat × Nat)} {parts:Array (Nat × Operand)} {l:List (Nat × Value)} [TSt c.P t zc places] (hd:Qw c.n (some d)=true) (hg:Qi F g=some true)
  (hp:Xs F parts.toList=some l) (hc:Instr.fill (places[·]?) zc l=some cs) (h:JO c Q m r ((d,(.agg cs))::F) H):JO c Q m (⟨some d,.build t parts,ty,g,.bg,ns⟩::r) F H :=
 ZE hd hg (fun a w fr=>by
  have h1:(parts.map fun(i,x)=>(i,a.eval x)).toList=l:=by rw[Array.toList_map];exact XT fr hp
  simp only[execOp,Sem.run_bind,TSt.run,h1,hc,Result.andThen_ok,Sem.run_pure]) h

def Zb (zc:Array Value) (n:Nat):Array Value:=(Array.range n).map (zc[· % zc.size]!)

theorem Zr {d:Tmp} {e:TypeId} {sz bytes n:Nat} {zc cs:Array Value} {parts:Array (Nat × Operand)} {l:List (Nat × Value)} [dh c.P t e] [TE c.P e sz bytes zc] (hd:Qw c.n (some d)=true) (hg:Qi F g=some true) (hl:m.live=true)
  (hp:Xs F parts.toList=some l) (hn:n*sz≤2 ^ 24) (hn0:n*sz≠0) (hc:Instr.fill (fun j=>some (j*sz,sz)) (Zb zc (n*sz)) l=some cs)
  (h:∀ b,JO c Q m r ((d,(.slice (some ⟨b,0,none⟩) n n))::F) ((b,.cells cs e)::H)):JO c Q m (⟨some d,.buildSlice t n parts,ty,g,.alloc,ns⟩::r) F H :=
 Q1t (mk:=fun b=>.slice (some ⟨b,0,none⟩) n n) hd hg hl (fun a fr=>by
  obtain⟨i,z,hi,rfl,rfl,hz,rfl⟩:=TE.info (P:=c.P) (e:=e) (sz:=sz) (bytes:=bytes) (zc:=zc)
  have h1:(parts.map fun(i,x)=>(i,a.eval x)).toList=l:=by rw[Array.toList_map];exact XT fr hp
  have hc':=hc
  unfold Zb at hc'
  simp only[ZI,dh.und (P:=c.P) (t:=t),hi,hn,if_true,hn0,if_false,hz,Option.map_some,h1,hc']) h

theorem XP {d:Tmp} {e:TypeId} {sz bytes:Nat} {zc:Array Value} [dh c.P t e] [TE c.P e sz bytes zc] (hd:Qw c.n (some d)=true) (hg:Qi F g=some true) (hl:m.live=true)
  (h:∀ b,JO c Q m r ((d,(.slice (some ⟨b,0,none⟩) 0 0))::F) ((b,.cells #[] e)::H)):JO c Q m (⟨some d,.buildSlice t 0 #[],ty,g,.alloc,ns⟩::r) F H :=
 Q1t (mk:=fun b=>.slice (some ⟨b,0,none⟩) 0 0) hd hg hl (fun a fr=>by
  obtain⟨i,z,hi,_⟩:=TE.info (P:=c.P) (e:=e) (sz:=sz) (bytes:=bytes) (zc:=zc)
  simp[ZI,dh.und (P:=c.P) (t:=t),hi,Instr.fill]) h

theorem iH {z:Value} (n:Nat):Zb #[z] n=Array.replicate n z:=by
 unfold Zb
 apply Array.ext
 ·simp
 ·intro i h1 h2
  simp[Nat.mod_one]

theorem Xf {d:Tmp} {e:TypeId} {sz bytes n:Nat} {zc:Array Value} [dh c.P t e] [TE c.P e sz bytes zc] (hd:Qw c.n (some d)=true) (hg:Qi F g=some true) (hl:m.live=true)
  (hx:ev F x=some (.int .i64 n)) (hy:ev F y=some (.int .i64 n)) (hn:n*bytes≤140737488355328) (hn':n<9223372036854775808)
  (h:∀ b,JO c Q m r ((d,(.slice (some ⟨b,0,none⟩) n n))::F) ((b,.cells (Zb zc (n*sz)) e)::H)):JO c Q m (⟨some d,.makeSlice t x y,ty,g,.alloc,ns⟩::r) F H :=
 Q1t (mk:=fun b=>.slice (some ⟨b,0,none⟩) n n) hd hg hl (fun a fr=>by
  obtain⟨i,z,hi,rfl,rfl,hz,rfl⟩:=TE.info (P:=c.P) (e:=e) (sz:=sz) (bytes:=bytes) (zc:=zc)
  have h1:a.eval x=.int .i64 (Int.ofNat n):=fr.ev hx
  have h2:a.eval y=.int .i64 (Int.ofNat n):=fr.ev hy
  simp only[ZI,dh.und (P:=c.P) (t:=t),h1,h2,hi,hz,Option.map_some]
  rw[if_pos ⟨V7 _,hn,hn'⟩]
  by_cases h0:n*i.size=0
  ·simp[h0,Zb]
  ·simp[h0,Zb]) h

theorem Qdv {F:ak} {H:aj} {a:Act} {w w':World} {k b:Nat} {o o':Obj} (st:St c F H a w) (hb:H[k]?=some (b,o)) (hw:w'.heap[b]?=some o') (ho:∀ j,j≠b→w'.heap[j]?=w.heap[j]?)
  (hs:w'.heap.size=w.heap.size) (h1:w'.os=w.os) (h2:w'.tape=w.tape) (h3:w'.output=w.output):St c F (H.set k (b,o')) a w'∧Step c H w w':=by
 have hm:(b,o)∈H:=List.mem_of_getElem? hb
 have hk:k<H.length:=(List.getElem?_eq_some_iff.1 hb).1
 have hkeys:(H.set k (b,o')).map (·.1)=H.map (·.1):=by
  apply List.ext_getElem?
  intro i
  simp only[List.getElem?_map,List.getElem?_set]
  by_cases hi:k=i
  ·subst hi;simp only[hk,if_true,hb,Option.map_some]
  ·simp[hi]
 have hne:∀ p∈H.set k (b,o'),p=(b,o')∨(p∈H∧p.1≠b):=fun p hp=>by
  obtain⟨i,hi⟩:=List.mem_iff_getElem?.1 hp
  rw[List.getElem?_set]at hi
  by_cases hik:k=i
  ·subst hik;simp only[hk,if_true]at hi;exact .inl (Option.some.inj hi).symm
  ·rw[if_neg hik]at hi
   refine .inr ⟨List.mem_of_getElem? hi,fun e=>hik ?_⟩
   have e1:(H.map (·.1))[k]?=some b:=by simp[hb]
   have e2:(H.map (·.1))[i]?=some b:=by simp[hi,e]
   have hl:=(List.getElem?_eq_some_iff.1 e1).1
   exact(List.getElem?_inj hl st.hs.nd).1 (e1.trans e2.symm)
 refine⟨⟨st.fr,⟨h1.trans st.kp.os,h2.trans st.kp.tape,h3.trans st.kp.output,by rw[hs];exact st.kp.size,fun j hj hjm=>?_⟩,⟨by rw[hkeys];exact st.hs.nd,fun p hp=>?_⟩,fun p hp=>?_⟩,⟨by omega,fun j _ hjn _=>ho j fun e=>hjn (by subst e;exact List.mem_map.2 ⟨_,hm,rfl⟩)⟩⟩
 ·have:j≠b:=fun e=>by
   subst e
   rcases st.wr _ hm with h|h
   ·omega
   ·exact hjm h
  rw[ho j this];exact st.kp.block j hj hjm
 ·rcases hne p hp with rfl|⟨hp,hpb⟩
  ·exact hw
  ·rw[ho _ hpb];exact st.hs.blk p hp
 ·rcases hne p hp with rfl|⟨hp,_⟩
  ·exact st.wr (b,o) hm
  ·exact st.wr p hp

theorem Q66 {H:aj} {k b:Nat} {o o':Obj} (hb:H[k]?=some (b,o)):∀ j∈keys (H.set k (b,o')),j∈keys H:=by
 intro j hj
 obtain⟨p,hp,rfl⟩:=List.mem_map.1 hj
 rcases List.mem_or_eq_of_mem_set hp with h|rfl
 ·exact List.mem_map.2 ⟨p,h,rfl⟩
 ·exact List.mem_map.2 ⟨_,List.mem_of_getElem? hb,rfl⟩

def ZB:Array Value→Nat→List Value→Array Value
 | cs,_,[]=>cs
 | cs,o,v::r=>ZB (cs.setIfInBounds o v) (o+1) r

theorem Q04:∀ (l:List Value) (cs:Array Value) (o:Nat),(ZB cs o l).size=cs.size
 | [],_,_=>rfl
 | v::r,cs,o=>by rw[ZB,Q04 r];simp

theorem WM {P:Program} {T:TypeId} {b o:Nat}:∀ (l:List Value) (i:Nat) (cs:Array Value) (w:World),(∀ v∈l,v.oneCell'=true)→w.heap[b]?=some (.cells cs T (0,0))→o+(i+l.length)≤cs.size →
  ∃ w',(storeCells ⟨b,o,none⟩ l i).run P w=.ok () w'∧w'.heap[b]?=some (.cells (ZB cs (o+i) l) T (0,0))∧(∀ j,j≠b→w'.heap[j]?=w.heap[j]?)∧w'.heap.size=w.heap.size∧w'.os=w.os∧w'.tape=w.tape∧w'.output=w.output
 | [],i,cs,w,_,hb,_=>⟨w,rfl,hb,fun _ _=>rfl,rfl,rfl,rfl,rfl⟩
 | v :: r, i, cs, w, hv, hb, hl => by
  simp only[List.length_cons]at hl
  have hlt:o+i<cs.size:=by omega
  have hc:w.cell? ⟨b,o+i,none⟩=some cs[o+i]:=Z4 hb (Array.getElem?_eq_getElem hlt)
  have hf:w.frozen? ⟨b,o+i,none⟩=false:=by simp[World.frozen?,hb]
  have hrun:(store (⟨b,o+i,none⟩:Addr) v).run P w=.ok () (w.setCell ⟨b,o+i,none⟩ v):=by
   rw[run_store P w _ v .plain (hv v aA),hc]
   simp[hf]
  have hb1:(w.setCell ⟨b,o+i,none⟩ v).heap[b]?=some (.cells (cs.setIfInBounds (o+i) v) T (0,0)):=by
   simp[World.setCell,Array.getElem?_modify,hb]
  obtain⟨w',h1,h2,h3,h4,h5,h6,h7⟩:=WM (o:=o) r (i+1) (cs.setIfInBounds (o+i) v) (w.setCell ⟨b,o+i,none⟩ v) (fun u hu=>hv u (by simp[hu])) hb1 (by rw[Array.size_setIfInBounds];omega)
  refine⟨w',?_,by rw[ZB,show o+i+1=o+(i+1) from by omega];exact h2,fun j hj=>(h3 j hj).trans (Below.heap_setCell _ _ _ _ hj),by rw[h4];simp[World.setCell],h5,h6,h7⟩
  simp only[storeCells,ZD,Sem.run_bind,hrun,Result.andThen_ok]
  exact h1

theorem Q3e {P:Program} {t:TypeId} {n:Nat} (hsz:∀ w,(sizeOf t).run P w=.ok n w) {T:TypeId} {b o:Nat} {v:Value} {cs:Array Value} {w:World} (hn:v.cells.size=n) (hv:∀ u∈v.cells.toList,u.oneCell'=true)
  (hb:w.heap[b]?=some (.cells cs T (0,0))) (hl:o+n≤cs.size) :
  ∃ w',(Instr.storeAt t (.pointer (some ⟨b,o,none⟩)) v).run P w=.ok () w'∧w'.heap[b]?=some (.cells (ZB cs o v.cells.toList) T (0,0))∧(∀ j,j≠b→w'.heap[j]?=w.heap[j]?)∧w'.heap.size=w.heap.size∧w'.os=w.os∧w'.tape=w.tape∧w'.output=w.output:=by
 obtain⟨w',h1,h2⟩:=WM (P:=P) (o:=o) v.cells.toList 0 cs w hv hb (by simp[hn];omega)
 refine⟨w',?_,h2⟩
 simp only[Instr.storeAt,Instr.sureAddr,storeVar,Sem.run_bind,Sem.run_pure,Result.andThen_ok,hsz]
 simp[hn,h1]

def Mode.spent:Mode→Mode
 | .text=>.text
 | .draw Hs _=>.draw Hs false

def Mode.aO (m:Mode) (ns:Bool) (r:List bT):Prop :=
 match m with
 | .text=>True
 | .draw _ _=>ns=false∧Zq r=true

theorem Za {m:Mode} {ns:Bool} {w:World} {r:List bT} (h:m.aO ns r):m.after m.spent ns (Zq r) w:=by
 cases m with
 | text=>trivial
 | draw Hs l =>
  obtain⟨rfl,h2⟩:=h
  exact⟨rfl,(fun h=>by cases h),(fun h=>by cases h),.inr h2⟩

theorem Q2r {b o n:Nat} (k:Nat) {cs:Array Value} {T:TypeId} {v:Value} {l:List Value} (hsz:∀ w,(sizeOf t).run c.P w=.ok n w) (hg:Qi F g=some true) (hm:m.aO ns r) (hx:ev F x=some (.pointer (some ⟨b,o,none⟩))) (hy:ev F y=some v)
  (hb:H[k]?=some (b,.cells cs T (0,0))) (hc:v.cells.toList=l) (hn:l.length=n) (hv:(l.all (·.oneCell'))=true) (hl:o+n≤cs.size) (h:JO c Q m.spent r F (H.set k (b,.cells (ZB cs o l) T (0,0)))) :
  JO c Q m (⟨none,.store t x y,ty,g,.seq,ns⟩::r) F H:=by
 refine⟨⟨rfl,.inr ⟨hg,fun a w st _=>?_⟩⟩⟩
 have hm':(b,Obj.cells cs T (0,0))∈H:=List.mem_of_getElem? hb
 obtain⟨w',h1,h2,h3,h4,h5,h6,h7⟩:=Q3e (P:=c.P) (t:=t) (n:=n) hsz (o:=o) (v:=v) (w:=w) (by rw[← hn, ← hc];simp) (by rw[hc];exact List.all_eq_true.1 hv) (st.hs.blk _ hm') hl
 rw[hc]at h2
 obtain⟨st',hstep⟩:=Qdv st hb h2 h3 h4 h5 h6 h7
 unfold Oper.wp bT.oper
 simp only[execOp,st.fr.ev hx,st.fr.ev hy,Sem.run_bind,h1,Result.andThen_ok,Sem.run_pure]
 exact⟨hstep,F,_,m.spent,st',fun j hj=>.inl (Q66 hb j hj),Za hm,h.h⟩

theorem Qe3 {b o:Nat} (k:Nat) {cs:Array Value} {T:TypeId} {v:Value} [T1 c.P t] (hg:Qi F g=some true) (hm:m.aO ns r) (hx:ev F x=some (.pointer (some ⟨b,o,none⟩))) (hy:ev F y=some v)
  (hb:H[k]?=some (b,.cells cs T (0,0))) (hc:v.cells.toList=[v]) (hv:v.oneCell'=true) (hl:o<cs.size) (h:JO c Q m.spent r F (H.set k (b,.cells (cs.setIfInBounds o v) T (0,0)))) :
  JO c Q m (⟨none,.store t x y,ty,g,.seq,ns⟩::r) F H :=
 Q2r k T1.size hg hm hx hy hb hc rfl (by simp[hv]) oq h
theorem QO {b o:Nat} {k:Nat} {cs:Array Value} {T:TypeId} {v:Value} [T1 c.P t] (h:JO c Q m.spent r F (H.set k (b,.cells (cs.setIfInBounds o v) T (0,0)))) (hg:Qi F g=some true:=by exact rfl) (hm:m.aO ns r:=by(first|exact trivial|exact⟨rfl,rfl⟩)) (hx:ev F x=some (.pointer (some ⟨b,o,none⟩)):=by exact rfl) (hy:ev F y=some v:=by exact rfl) (hb:H[k]?=some (b,.cells cs T (0,0)):=by(first|exact at0|exact at1|exact at2|exact at3|exact at4|exact at5|exact at6|exact at7|exact at8|exact at9)) (hc:v.cells.toList=[v]:=by exact rfl) (hv:v.oneCell'=true:=by exact rfl) (hl:o<cs.size:=by(first|exact Nat.le_of_ble_eq_true rfl|(simp;done)|omega)):JO c Q m (⟨none,.store t x y,ty,g,.seq,ns⟩::r) F H:=Qe3 (k:=k) (hg:=hg) (hm:=hm) (hx:=hx) (hy:=hy) (hb:=hb) (hc:=hc) (hv:=hv) (hl:=hl) (h:=h)

theorem Qhh {b n:Nat} (k:Nat) {cs vs:Array Value} {T:TypeId} [TN c.P t n] (hg:Qi F g=some true) (hm:m.aO ns r) (hx:ev F x=some (.pointer (some ⟨b,0,none⟩))) (hy:ev F y=some (.agg vs))
  (hb:H[k]?=some (b,.cells cs T (0,0))) (hn:vs.size=n) (hn':cs.size=n) (hv:(vs.toList.all (·.oneCell'))=true) (h:JO c Q m.spent r F (H.set k (b,.cells vs T (0,0)))) :
  JO c Q m (⟨none,.store t x y,ty,g,.seq,ns⟩::r) F H:=by
 have key:∀ (l:List Value) (cs:Array Value) (o:Nat),o+l.length=cs.size→(ZB cs o l).toList=cs.toList.take o++l:=by
  intro l
  induction l with
  | nil =>
   intro cs o h
   simp only[List.length_nil,Vp]at h
   rw[ZB,Vh,Vd (by simp[h])]
  | cons v l ih =>
   intro cs o h
   simp only[List.length_cons]at h
   rw[ZB,ih _ _ (by rw[Array.size_setIfInBounds];omega),Array.toList_setIfInBounds]
   have hlt:o<(cs.toList.set o v).length:=by simp;omega
   rw[List.take_succ_eq_append_getElem hlt,List.take_set_of_le (V7 _)]
   simp
 have key2:ZB cs 0 vs.toList=vs:=by
  have:=key vs.toList cs 0 (by simp;omega)
  apply Array.ext'
  simpa using this
 refine Q2r (l:=vs.toList) k TN.size hg hm hx hy hb rfl (by simp[hn]) hv oq ?_
 rw[key2]
 exact h
theorem Q6 {b n:Nat} {k:Nat} {cs vs:Array Value} {T:TypeId} [TN c.P t n] (h:JO c Q m.spent r F (H.set k (b,.cells vs T (0,0)))) (hg:Qi F g=some true:=by exact rfl) (hm:m.aO ns r:=by(first|exact trivial|exact⟨rfl,rfl⟩)) (hx:ev F x=some (.pointer (some ⟨b,0,none⟩)):=by exact rfl) (hy:ev F y=some (.agg vs):=by exact rfl) (hb:H[k]?=some (b,.cells cs T (0,0)):=by(first|exact at0|exact at1|exact at2|exact at3|exact at4|exact at5|exact at6|exact at7|exact at8|exact at9)) (hn:vs.size=n:=by exact rfl) (hn':cs.size=n:=by exact rfl) (hv:(vs.toList.all (·.oneCell'))=true:=by exact rfl):JO c Q m (⟨none,.store t x y,ty,g,.seq,ns⟩::r) F H:=Qhh (k:=k) (hg:=hg) (hm:=hm) (hx:=hx) (hy:=hy) (hb:=hb) (hn:=hn) (hn':=hn') (hv:=hv) (h:=h)

theorem Y9 {d:Tmp} {e:TypeId} {sz:Nat} {A:Option Addr} {b o len cap l h':Nat} {lo hi:Option Operand} {vl vh:Option Value} [dh c.P t e] [dS c.P e sz] (hd:Qw c.n (some d)=true) (hg:Qi F g=some true)
  (hx:ev F x=some (.slice A len cap)) (hA:0<len→A=some ⟨b,o,none⟩)
  (hlo:(lo.bind (ev F))=vl) (hlo':lo.isSome=vl.isSome) (hl:vl=some (.int .i64 l)∨(vl=none∧l=0)) (hhi:(hi.bind (ev F))=vh) (hhi':hi.isSome=vh.isSome) (hh:vh=some (.int .i64 h')∨(vh=none∧h'=len))
  (hlh:l≤h') (hhl:h'≤len) (hlc:len≤cap)
  (h:∀ A',(l<h'→A'=some ⟨b,o+l*sz,none⟩)→JO c Q m r ((d,(.slice A' (h'-l) (cap-l)))::F) H):JO c Q m (⟨some d,.slice t x lo hi none,ty,g,.bg,ns⟩::r) F H:=by
 refine ZE (v:=.slice (if cap=l then A else A.map (·.add (l*sz))) (h'-l) (cap-l)) hd hg (fun a w fr=>?_) (h _ fun hlh'=>?_)
 ·have hlo1:lo.map a.eval=vl:=by
   cases lo with
   | none=>simpa using hlo
   | some x=>simp only[Option.bind_some]at hlo;cases vl with
    | none=>cases hlo'
    | some v=>simp[fr.ev hlo]
  have hhi1:hi.map a.eval=vh:=by
   cases hi with
   | none=>simpa using hhi
   | some x=>simp only[Option.bind_some]at hhi;cases vh with
    | none=>cases hhi'
    | some v=>simp[fr.ev hhi]
  have e1:(0:Int)≤l∧(l:Int)≤h':=by omega
  have e2:(0:Int)≤h'∧(h':Int)≤cap:=by omega
  simp only[execOp,fr.ev hx,hlo1,hhi1,Option.map_none,Instr.sliceAt,Sem.run_bind,run_underlying (dh.und (P:=c.P) (t:=t)),Result.andThen_ok,Instr.slice,Instr.sliceBounds]
  rcases hl with rfl|⟨rfl,rfl⟩<;>rcases hh with rfl|⟨rfl,rfl⟩ <;>
   simp only[Instr.sliceBound,asIntOf,Sem.run_bind,Sem.run_pure,Result.andThen_ok,e1,e2,and_self,if_true,Int.toNat_natCast,dS.size (e:=e) (n:=sz),if_false]
 ·rw[if_neg oq,hA oq]
  simp[ZD]

structure New (N:aj) (w w':World):Prop where
 nd:(N.map (·.1)).Nodup
 ge:∀ p∈N,w.heap.size≤p.1
 blk:∀ p∈N,w'.heap[p.1]?=some p.2

theorem New.nil (w w':World):New [] w w':=⟨by simp,by simp,by simp⟩
theorem New.one {b:Nat} {o:Obj} {w w':World} (h:w.heap.size≤b) (hb:w'.heap[b]?=some o):New [(b,o)] w w':=⟨by simp,by simp[h],by simp[hb]⟩

theorem St.new {F:ak} {H N:aj} {a:Act} {w w':World} (st:St c F H a w) (hk:Kp [] w w') (hn:New N w w'):St c F (H++N) a w':=by
 refine⟨st.fr,st.kp.trans (hk.mono aA),⟨?_,fun p hp=>?_⟩,fun p hp=>?_⟩
 ·rw[Vj,List.nodup_append]
  refine⟨st.hs.nd,hn.nd,fun a ha b hb hab=>?_⟩
  obtain⟨p,hp,rfl⟩:=List.mem_map.1 ha
  obtain⟨q,hq,rfl⟩:=List.mem_map.1 hb
  have h1:=hn.ge q hq
  have h2:=st.hs.lt hp
  omega
 ·rcases List.mem_append.1 hp with hp|hp
  ·exact(hk.block p.1 (st.hs.lt hp) aA).trans (st.hs.blk p hp)
  ·exact hn.blk p hp
 ·rcases List.mem_append.1 hp with hp|hp
  ·exact st.wr p hp
  ·exact .inl (V0 st.kp.size (hn.ge p hp))

theorem aG.sub {H H':aj} {w:World} (h:aG H w) (hs:∀ p∈H',p∈H) (hn:(H'.map (·.1)).Nodup):aG H' w:=⟨hn,fun p hp=>h.blk p (hs p hp)⟩

theorem St.put {F:ak} {H:aj} {a:Act} {w:World} (st:St c F H a w) {d:Option Tmp} (v:Value) (hd:Qw c.n d=true):St c (dN F d v) H (a.put d v) w:=⟨st.fr.put v hd,st.kp,st.hs,st.wr⟩

def Mode.dR (m:Mode) (ns:Bool) (r:List bT):Prop :=
 match m with
 | .text=>True
 | .draw _ true=>True
 | .draw _ false=>ns=false∧Zq r=true

theorem ZY {m:Mode} {ns:Bool} {w w':World} {r:List bT} (hk:Kp [] w w') (hs:match m with | .text=>True | .draw Hs l=>l=true→aG Hs w) (h:m.dR ns r):m.after m ns (Zq r) w':=by
 cases m with
 | text=>trivial
 | draw Hs l =>
  cases l with
  | true=>exact⟨rfl,fun _=>⟨rfl,(hs rfl).kp hk aA⟩,fun _=>rfl,.inl rfl⟩
  | false=>exact⟨rfl,(fun h=>by cases h),(fun h'=>by rw[h.1]at h';cases h'),.inr h.2⟩

def Qgz:List Value→Value
 | [v]=>v
 | vs=>.tuple vs.toArray

def JR (c:Cx) (F:ak) (H:aj):List ResultVar→List Value→Prop
 | [],[]=>True
 | .tmp t::r,v::vs=>look F t=some v∧JR c F H r vs
 | .cell t ty::r,v::vs=>(∃ (b:Nat) (cs:Array Value) (k:Nat) (T:TypeId) (fz:Nat × Nat),look F t=some (.pointer (some ⟨b,0,none⟩))∧H[k]?=some (b,Obj.cells cs T fz)∧((TN c.P ty cs.size∧v=.agg cs)∨(T1 c.P ty∧cs[0]?=some v)))∧JR c F H r vs
 | _,_=>False

theorem Q1g {F:ak} {H:aj} {t:Tmp} {ty n:Nat} {rs:List ResultVar} {vs:List Value} {b:Nat} {cs:Array Value} {T:TypeId} {fz:Nat × Nat} [ht:TN c.P ty n] (k:Nat) (h1:look F t=some (.pointer (some ⟨b,0,none⟩)))
  (h2:H[k]?=some (b,Obj.cells cs T fz)) (hn:cs.size=n) (h:JR c F H rs vs):JR c F H (.cell t ty::rs) (.agg cs::vs) :=
 ⟨⟨b,cs,k,T,fz,h1,h2,.inl ⟨by rw[hn];exact ht,rfl⟩⟩,h⟩
theorem JR.nil {F:ak} {H:aj}:JR c F H [] []:=trivial

def resF (tmps:Array Value):ResultVar→Sem Value
 | .tmp t=>pure (tmps.getD t undef)
 | .cell x t=>do loadVar t (← asAddr (tmps.getD x undef))

theorem Q06 {F:ak} {H:aj} {a:Act} {w:World} (st:St c F H a w):∀ {rs:List ResultVar} {vs:List Value},JR c F H rs vs→(rs.mapM (resF a.tmps)).run c.P w=.ok vs w
 | [],[],_=>rfl
 | .tmp t::r,v::vs,h=>by
  have h1:=st.fr.fr t v h.1
  have h2:(resF a.tmps (.tmp t)).run c.P w=.ok v w:=by simp[resF,h1]
  rw[List.mapM_cons]
  simp only[Sem.run_bind,h2,Sem.run_pure,Result.andThen_ok,Q06 st h.2]
 | .cell t ty :: r, v :: vs, h => by
  obtain⟨⟨b,cs,k,T,fz,h1,h2,h3⟩,h4⟩:=h
  have h1:=st.fr.fr t _ h1
  have hb:=st.hs.blk _ (List.mem_of_getElem? h2)
  have hl:(loadVar ty ⟨b,0,none⟩).run c.P w=.ok v w:=by
   rcases h3 with ⟨ht,rfl⟩|⟨ht,hv⟩
   ·have:=Q0s (P:=c.P) (t:=ty) (n:=cs.size) (w:=w) (b:=b) (o:=0) (vs:=cs) rfl (fun j hj=>by
     rw[Vq,Array.getElem?_eq_getElem hj]
     exact Z4 hb (Array.getElem?_eq_getElem hj))
    simpa [Instr.loadAt,Instr.sureAddr] using this
   ·have:=Q3f (P:=c.P) (t:=ty) (w:=w) (Z4 hb hv)
    simpa [Instr.loadAt,Instr.sureAddr] using this
  have h5:a.tmps.getD t undef=.pointer (some ⟨b,0,none⟩):=by simp[h1]
  have h2:(resF a.tmps (.cell t ty)).run c.P w=.ok v w:=by
   simp only[resF,Sem.run_bind,h5,asAddr,Sem.run_pure,Result.andThen_ok,hl]
  rw[List.mapM_cons]
  simp only[Sem.run_bind,h2,Sem.run_pure,Result.andThen_ok,Q06 st h4]
 | [],_::_,h=>h.elim
 | .tmp _::_,[],h=>h.elim
 | .cell _ _::_,[],h=>h.elim

theorem Qc2 (fn:Func) (tmps:Array Value):results fn tmps=(do
  let vs ← fn.results.mapM (resF tmps)
  pure (if h:vs.size=1 then vs[0] else .tuple vs)):=by
 unfold results
 congr 2

theorem Wi {fn:Func} {F:ak} {H:aj} {a:Act} {w:World} {vs:List Value} (st:St c F H a w) (h:JR c F H fn.results.toList vs):(results fn a.tmps).run c.P w=.ok (Qgz vs) w:=by
 have h1:=Q06 st h
 rw[Qc2,Sem.run_bind]
 have h2:(fn.results.mapM (resF a.tmps)).run c.P w=.ok vs.toArray w:=by
  rw[Array.mapM_eq_mapM_toList,Sem.run_map,h1]
  rfl
 rw[h2]
 simp only[Result.andThen_ok,Sem.run_pure]
 match vs with
 | []=>rfl
 | [v]=>rfl
 | _::_::_=>simp[Qgz]

theorem Yy {rs:Array ResultVar} {R:Ending→World→Prop} {F:ak} {H:aj} (vs:List Value) (h:JR c F H rs.toList vs) (hR:∀ a w,St c F H a w→R (.returned (Qgz vs)) w):JX c (X9 c.P rs R) .ret F H :=
 ⟨fun a w st=>⟨st.fr.defers,_,Wi (fn:={ (default:Func)with results:=rs }) st h,hR a w st⟩⟩
theorem Qmw {rs:Array ResultVar} {R:Ending→World→Prop} {F:ak} {H:aj} (vs:List Value) (h:JR c F H rs.toList vs) (hR:∀ a w,St c F H a w→R (.returned (Qgz vs)) w):JX c (X9 c.P rs R) .normal F H :=
 ⟨fun a w st=>⟨st.fr.defers,_,Wi (fn:={ (default:Func)with results:=rs }) st h,hR a w st⟩⟩
theorem Qj {t:Tmp} {v:Value} {R:Value→World→Prop} {F:ak} {H:aj} (h:look F t=some v) (hR:∀ a w,St c F H a w→R v w):JX c (X9 c.P #[.tmp t] (aQ R)) .ret F H :=
 Yy [v] ⟨h,trivial⟩ hR
theorem QN {t t':Tmp} {v v':Value} {R:Value→World→Prop} {F:ak} {H:aj} (h:look F t=some v) (h':look F t'=some v') (hR:∀ a w,St c F H a w→R (.tuple #[v,v']) w):JX c (X9 c.P #[.tmp t,.tmp t'] (aQ R)) .ret F H :=
 Yy [v,v'] ⟨h,h',trivial⟩ hR
theorem Z0 {t:Tmp} {ty n b:Nat} {cs:Array Value} {T:TypeId} {fz:Nat × Nat} {R:Value→World→Prop} {F:ak} {H:aj} [TN c.P ty n] (k:Nat) (h1:look F t=some (.pointer (some ⟨b,0,none⟩)))
  (h2:H[k]?=some (b,Obj.cells cs T fz)) (hn:cs.size=n) (hR:∀ a w,St c F H a w→R (.agg cs) w):JX c (X9 c.P #[.cell t ty] (aQ R)) .ret F H :=
 Yy [.agg cs] (Q1g k h1 h2 hn JR.nil) hR
theorem Zg {t t':Tmp} {v':Value} {ty n b:Nat} {cs:Array Value} {T:TypeId} {fz:Nat × Nat} {R:Value→World→Prop} {F:ak} {H:aj} [TN c.P ty n] (k:Nat) (h1:look F t=some (.pointer (some ⟨b,0,none⟩)))
  (h2:H[k]?=some (b,Obj.cells cs T fz)) (hn:cs.size=n) (h':look F t'=some v') (hR:∀ a w,St c F H a w→R (.tuple #[.agg cs,v']) w):JX c (X9 c.P #[.cell t ty,.tmp t'] (aQ R)) .ret F H :=
 Yy [.agg cs,v'] (Q1g k h1 h2 hn ⟨h',trivial⟩) hR

end

section
variable {c:Cx} {Q:Exit→Act→World→Prop} {m:Mode} {F:ak} {H:aj} {r:List bT} {g:Option (Option Tmp × Bool)} {ns:Bool} {d:Tmp} {ty t t':TypeId} {x y:Operand}

theorem Yg {fn:Fn} {first captured:Array Operand} {vs us:List Value} (hd:Qw c.n (some d)=true:=by exact rfl) (hg:Qi F g=some true:=by exact rfl) (hf:Zy F first.toList=some vs:=by exact rfl) (hc:Zy F captured.toList=some us:=by exact rfl)
  (h:JO c Q m r ((d,.func fn vs.toArray us.toArray)::F) H):JO c Q m (⟨some d,.makeFunc fn first captured,ty,g,.bg,ns⟩::r) F H :=
 ZE hd hg (fun a w fr=>by
  have h1:first.map a.eval=vs.toArray:=Array.ext' (by rw[Array.toList_map,Yv fr hf])
  have h2:captured.map a.eval=us.toArray:=Array.ext' (by rw[Array.toList_map,Yv fr hc])
  simp[execOp,Instr.makeFunc,h1,h2]) h

theorem Qfo {f:FuncId} {vs:Array Value} {op:Op} {dd:Option Tmp} {R:World→Value→World→Prop} {a:Act} {w:World} (hs:match m with | .text=>True | .draw Hs l=>l=true→aG Hs w) (hm:m.dR ns r) (hd:Qw c.n dd=true) (st:St c F H a w)
  (hrun:(execOp a.eval ⟨dd,op,ty, "",#[],none⟩).run c.P w=.ok (.enter f vs) w) (hc:Calls c.P f vs w (aQ fun v w'=>Kp [] w w'∧R w v w'))
  (h:∀ v w',Kp [] w w'→R w v w'→∃ N,New N w w'∧JO c Q m r (dN F dd v) (H++N)) :
  Oper.wp c.P ⟨dd,op,ty, "",#[],none⟩ a w (fun a' w' =>
     Step c H w w'∧∃ F' H' m',St c F' H' a' w'∧(∀ k∈keys H',k∈keys H∨k∈c.M∨w.heap.size≤k)∧m.after m' ns (Zq r) w'∧JL c (Q .normal) m' r F' H') (Only fun _ _=>False):=by
 unfold Oper.wp
 rw[hrun]
 refine Calls.mono hc fun e w' he=>?_
 cases e with
 | returned v =>
  obtain⟨hk,hR⟩:=he
  obtain⟨N,hn,hj⟩:=h v w' hk hR
  refine⟨⟨hk.size,fun k hkk _ _=>hk.block k hkk aA⟩,_,_,m,(st.new hk hn).put v hd,fun k hkk=>?_,ZY hk hs hm,hj.h⟩
  rw[keys,Vj]at hkk
  rcases List.mem_append.1 hkk with h|h
  ·exact .inl h
  ·obtain⟨p,hp,rfl⟩:=List.mem_map.1 h
   exact .inr (.inr (hn.ge p hp))
 | panicked ch=>exact he.elim
 | outgrown=>exact he.elim

theorem Ql3 {f:FuncId} {args:Array Operand} {ats:Array TypeId} {vs:List Value} {first cap:Array Value} {R:World→Value→World→Prop} [TF c.P f] (hm:m.dR ns r) (hd:Qw c.n (some d)=true) (hg:Qi F g=some true)
  (hx:ev F x=some (.func (.func f) first cap)) (ha:Zy F args.toList=some vs)
  (hc:∀ w,Kp c.M c.w0 w→aG H w→Calls c.P f (first++vs.toArray++cap) w (aQ fun v w'=>Kp [] w w'∧R w v w'))
  (h:∀ w v w',Kp c.M c.w0 w→aG H w→Kp [] w w'→R w v w'→∃ N,New N w w'∧JO c Q m r ((d,v)::F) (H++N)) :
  JO c Q m (⟨some d,.call ⟨.value x,args,ats⟩,ty,g,.seq,ns⟩::r) F H:=by
 refine⟨⟨hd,.inr ⟨hg,fun a w st hs=>?_⟩⟩⟩
 have h1:args.map a.eval=vs.toArray:=Array.ext' (by rw[Array.toList_map,Yv st.fr ha])
 have h0:(resolve a.eval ⟨.value x,args,ats⟩ ty).run c.P w=.ok { target:=.fn (.func f) cap,args:=first++vs.toArray } w:=by
  simp[resolve,h1,st.fr.ev hx,Deferred.ofValue]
 refine Qfo hs hm hd st ?_ (hc w st.kp st.hs) (fun v w'=>h w v w' st.kp st.hs)
 show (do let d ← resolve a.eval ⟨.value x,args,ats⟩ ty;invoke d.target d.args).run c.P w=_
 rw[Sem.run_bind,h0]
 simp only[Result.andThen_ok,invoke,TF.run]

theorem XC {f:FuncId} {args:Array Operand} {ats:Array TypeId} {vs:List Value} {a:Act} {w:World} {dd:Option Tmp} [TF c.P f] (fr:dQ c.n F a) (ha:Zy F args.toList=some vs) :
  (execOp a.eval ⟨dd,.call ⟨.value (.func f),args,ats⟩,ty, "",#[],none⟩).run c.P w=.ok (.enter f vs.toArray) w:=by
 have h1:args.map a.eval=vs.toArray:=Array.ext' (by rw[Array.toList_map,Yv fr ha])
 have h0:(resolve a.eval ⟨.value (.func f),args,ats⟩ ty).run c.P w=.ok { target:=.fn (.func f) #[],args:=vs.toArray } w:=by
  simp[resolve,h1,Act.eval,Deferred.ofValue]
 show (do let d ← resolve a.eval ⟨.value (.func f),args,ats⟩ ty;invoke d.target d.args).run c.P w=_
 rw[Sem.run_bind,h0]
 simp only[Result.andThen_ok,invoke,Array.append_empty,TF.run]

def aH (e:TypeId) (sz:Nat) (N:aj) (v:Value) (n:Nat) (xs:List Value):Prop :=
 xs.length=n*sz ∧
 ((v = .slice none 0 0 ∧ n = 0 ∧ N = []) ∨
  ∃ b cap cur,v=.slice (some ⟨b,0,none⟩) n cap∧N=[(b,.cells cur e (0,0))]∧n≤cap∧cap≤maxLen∧cur.size=cap*sz∧cur.toList.take (n*sz)=xs)

theorem aH.nil (e:TypeId) (sz:Nat):aH e sz [] (.slice none 0 0) 0 []:=⟨by simp,.inl ⟨rfl,rfl,rfl⟩⟩

theorem St.perm {H':aj} {a:Act} {w:World} (st:St c F H a w) (hp:H.Perm H'):St c F H' a w :=
 ⟨st.fr,st.kp,⟨(hp.map (·.1)).nodup_iff.1 st.hs.nd,fun p h=>st.hs.blk p (hp.mem_iff.2 h)⟩,fun p h=>st.wr p (hp.mem_iff.2 h)⟩

theorem WP {P:Program} {w:World} {e t ty:TypeId} {i:TypeInfo} {z v:Value} {n mm cc:Nat} {xs news:List Value} {A:Option Addr} {N:aj} (ht:P.underlying t=some (.slice e)) (hi:P.info? e=some i) (hz:i.zero=some z)
  (hzs:z.cells.size=i.size) (hN:aH e i.size N v n xs) (hb:∀ p∈N,w.heap[p.1]?=some p.2) (hl:news.length=mm*i.size)
  (hnews:∀ ad,A=some ad→∀ j u,news[j]?=some u→w.cell? (ad.add j)=some u) (hA:0<mm→A.isSome=true) (h1:∀ u∈news,u.oneCell'=true) (h63:n+mm≤maxLen) (hbytes:(n+mm)*i.bytes≤140737488355328) :
  ∃ v' w' N',(Builtin.append_ #[t,t] ty #[v,.slice A mm cc]).run P w=.ok v' w'∧aH e i.size N' v' (n+mm) (xs++news)∧(∀ p∈N',w'.heap[p.1]?=some p.2)∧(∀ k∈keys N',k∈keys N∨w.heap.size≤k) ∧
   (∀ k,k<w.heap.size→k∉keys N→w'.heap[k]?=w.heap[k]?)∧w.heap.size≤w'.heap.size∧w'.os=w.os∧w'.tape=w.tape∧w'.output=w.output:=by
 obtain⟨hxl,hN⟩:=hN
 by_cases hm0:mm=0
 ·subst hm0
  have hn:news=[]:=List.eq_nil_of_length_eq_zero (by simpa using hl)
  subst hn
  refine⟨v,w,N,?_,⟨by simpa using hxl,by simpa using hN⟩,hb,fun k hk=>.inl hk,fun _ _ _=>rfl,V7 _,rfl,rfl,rfl⟩
  clear hnews hA h1 hbytes h63 hl hb hz hzs hxl
  rcases hN with ⟨rfl,rfl,rfl⟩|⟨b,cap,cur,rfl,rfl,h2,h3,h4,h5⟩
  ·cases A<;>simp[Builtin.append_,run_underlying ht,sizeOf,typeInfo,hi,Builtin.lenOf,Builtin.firstCells,loadCells,loadCellsFrom]
  ·clear h3 h4 h5
   cases A<;>simp[Builtin.append_,run_underlying ht,sizeOf,typeInfo,hi,Builtin.lenOf,Builtin.firstCells,loadCells,loadCellsFrom,storeCells,h2]
 ·obtain⟨ad,rfl⟩:=Option.isSome_iff_exists.1 (hA oq)
  have hnews:=hnews ad rfl
  have hsmall:n+mm≤9223372036854775807:=by simp only[maxLen]at h63;omega
  have hlen:(xs++news).length=(n+mm)*i.size:=by rw[Vi,hxl,hl,Vl]
  have grown:∀ (old:Nat),old<n+mm→∃ N',aH e i.size N' (.slice (some ⟨w.heap.size,0,none⟩) (n+mm) (grownCap w (n+mm) old e)) (n+mm) (xs++news) ∧
    (∀ p∈N',(w.drew.alloc (.cells (xs.toArray++news.toArray++Builtin.zeroCells z.cells (grownCap w (n+mm) old e-(n+mm))) e)).heap[p.1]?=some p.2)∧(∀ k∈keys N',k∈keys N∨w.heap.size≤k):=by
   intro old ho
   have hge:=grownCap_ge w (n+mm) old e
   have hcm:grownCap w (n+mm) old e≤maxLen:=grownCap_le_maxLen w (n+mm) old e h63
   refine⟨[(w.heap.size,.cells (xs.toArray++news.toArray++Builtin.zeroCells z.cells (grownCap w (n+mm) old e-(n+mm))) e)],⟨hlen,.inr ⟨w.heap.size,_,_,rfl,rfl,hge,hcm,?_,?_⟩⟩,?_,?_⟩
   ·simp only[Array.size_append,List.size_toArray,size_zeroCells,hzs,hxl,hl, ← Vl]
    congr 1
    omega
   ·simp only[Array.toList_append,Vb]
    rw[← Vb, ← hlen]
    exact List.take_left
   ·intro p hp
    cases List.mem_singleton.1 hp
    exact heap_alloc_new w.drew _
   ·intro k hk
    simp[keys]at hk
    exact .inr oq
  have gold:∀ (o:Obj) (k:Nat),k<w.heap.size→k∉keys N→(w.drew.alloc o).heap[k]?=w.heap[k]?:=fun o k hk _=>heap_alloc_old w.drew _ k hk
  have gsize:∀ o:Obj,w.heap.size≤(w.drew.alloc o).heap.size:=fun o=>by show _≤(w.heap.push o).size;simp
  rcases hN with ⟨rfl,rfl,rfl⟩|⟨b,cap,cur,rfl,rfl,h2,h3,h4,h5⟩
  ·have hx:xs=[]:=List.eq_nil_of_length_eq_zero (by simpa using hxl)
   subst hx
   have hr:=run_append_nil (P:=P) w t ty e i z ht hi hz ad mm cc news hl hnews oq oq (by have hb:=hbytes;simp only[Vq]at hb;omega)
   obtain⟨N',g1,g2,g3⟩:=grown 0 oq
   simp only[Vq,Vr,Array.empty_append]at g1 g2 ⊢
   exact⟨_,_,N',hr,g1,g2,g3,gold _,gsize _,rfl,rfl,rfl⟩
  ·have hg:w.heap[b]?=some (.cells cur e (0,0)):=hb (b,_) aA
   by_cases hroom:n+mm≤cap
   ·have hfit:n*i.size+news.length≤cur.size:=by rw[hl,h4, ← Vl];exact V1 _ hroom
    have hr:=run_append_room (P:=P) w t ty e i ht hi b n cap cur hg ad mm cc news hl hnews h1 hroom hfit
    refine⟨_,_,[(b,.cells (cur.toList.take (n*i.size)++news++cur.toList.drop (n*i.size+news.length)).toArray e (0,0))],hr,⟨hlen,.inr ⟨b,cap,_,rfl,rfl,hroom,h3,?_,?_⟩⟩,?_,?_,?_,by simp,rfl,rfl,rfl⟩
    ·simp only[List.size_toArray,Vi,List.length_take,List.length_drop,Array.length_toList]
     omega
    ·rw[h5, ← hlen]
     exact List.take_left
    ·intro p hp
     cases List.mem_singleton.1 hp
     exact setRow_heap w b cur _ e _ hg
    ·intro k hk
     exact .inl hk
    ·intro k _ hk
     exact setRow_other w b k _ (fun e=>hk (by simp[keys,e]))
   ·have hadd:∀ j,(⟨b,0,none⟩:Addr).add j=⟨b,j,none⟩:=fun j=>by unfold Addr.add;split<;>simp_all
    have holds:∀ j u,xs[j]?=some u→w.cell? ((⟨b,0,none⟩:Addr).add j)=some u:=fun j u hu=>by
     rw[hadd,cell_of_row w b j cur e (0,0) hg]
     rw[← h5,List.getElem?_take]at hu
     split at hu
     ·simpa using hu
     ·cases hu
    have hr:=run_append_grow (P:=P) w t ty e i z ht hi hz ⟨b,0,none⟩ n cap xs hxl holds ad mm cc news hl hnews oq oq (growslice_fits oq hbytes)
    obtain⟨N',g1,g2,g3⟩:=grown cap oq
    exact⟨_,_,N',hr,g1,g2,g3,gold _,gsize _,rfl,rfl,rfl⟩

theorem aH.nodup {e sz N v n xs} (h:aH e sz N v n xs):(N.map (·.1)).Nodup:=by
 rcases h.2 with ⟨_,_,rfl⟩|⟨b,cap,cur,_,rfl,_⟩<;>simp

theorem ZV {H H0 N N':aj} {a:Act} {w w':World} (st:St c F H a w) (hH:H.Perm (H0++N)) (hnd:(N'.map (·.1)).Nodup) (hb:∀ p∈N',w'.heap[p.1]?=some p.2) (hk:∀ k∈keys N',k∈keys N∨w.heap.size≤k)
  (ho:∀ k,k<w.heap.size→k∉keys N→w'.heap[k]?=w.heap[k]?) (hsz:w.heap.size≤w'.heap.size) (h1:w'.os=w.os) (h2:w'.tape=w.tape) (h3:w'.output=w.output) :
  St c F (H0++N') a w'∧Step c H w w'∧(∀ k∈keys (H0++N'),k∈keys H∨k∈c.M∨w.heap.size≤k):=by
 have st0:=st
 have st:=st.perm hH
 have hN:∀ k∈keys N,k∈keys H:=fun k h=>by
  obtain⟨p,hp,rfl⟩:=List.mem_map.1 h
  exact List.mem_map.2 ⟨p,hH.mem_iff.2 (List.mem_append.2 (.inr hp)),rfl⟩
 have hH0:∀ k∈keys H0,k∈keys H:=fun k h=>by
  obtain⟨p,hp,rfl⟩:=List.mem_map.1 h
  exact List.mem_map.2 ⟨p,hH.mem_iff.2 (List.mem_append.2 (.inl hp)),rfl⟩
 have hnod:=st.hs.nd
 rw[Vj,List.nodup_append]at hnod
 have hlt0:∀ p∈H0,p.1<w.heap.size:=fun p hp=>st.hs.lt (List.mem_append.2 (.inl hp))
 have hw:∀ k∈keys N,c.w0.heap.size≤k∨k∈c.M:=fun k h=>by
  obtain⟨p,hp,rfl⟩:=List.mem_map.1 h
  exact st.wr p (List.mem_append.2 (.inr hp))
 refine⟨⟨st.fr,⟨h1.trans st.kp.os,h2.trans st.kp.tape,h3.trans st.kp.output,V0 st.kp.size hsz,fun k hk1 hkm=>?_⟩,⟨?_,fun p hp=>?_⟩,fun p hp=>?_⟩,⟨hsz,fun k hk1 hkn _=>ho k hk1 fun h=>hkn (hN k h)⟩,fun k hk1=>?_⟩
 ·have:k∉keys N:=fun h=>by
   rcases hw k h with h|h
   ·omega
   ·exact hkm h
  rw[ho k (V6 hk1 st.kp.size) this]
  exact st.kp.block k hk1 hkm
 ·rw[Vj,List.nodup_append]
  refine⟨hnod.1,hnd,fun x hx y hy hxy=>?_⟩
  rcases hk y hy with h|h
  ·exact hnod.2.2 x hx y h hxy
  ·obtain⟨p,hp,rfl⟩:=List.mem_map.1 hx
   have:=hlt0 p hp
   omega
 ·rcases List.mem_append.1 hp with hp|hp
  ·have:p.1∉keys N:=fun h=>hnod.2.2 p.1 (List.mem_map.2 ⟨p,hp,rfl⟩) p.1 h rfl
   rw[ho p.1 (hlt0 p hp) this]
   exact st.hs.blk p (List.mem_append.2 (.inl hp))
  ·exact hb p hp
 ·rcases List.mem_append.1 hp with hp|hp
  ·exact st.wr p (List.mem_append.2 (.inl hp))
  ·rcases hk p.1 (List.mem_map.2 ⟨p,hp,rfl⟩)with h|h
   ·exact hw _ h
   ·exact .inl (V0 st.kp.size h)
 ·rw[keys,Vj]at hk1
  rcases List.mem_append.1 hk1 with h|h
  ·exact .inl (hH0 k h)
  ·rcases hk k h with h|h
   ·exact .inl (hN k h)
   ·exact .inr (.inr h)

end
end Go.Proofs.YtbofgpenopcfaaaGreatDoor

