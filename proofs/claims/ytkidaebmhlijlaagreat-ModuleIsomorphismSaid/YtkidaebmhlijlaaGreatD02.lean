/- Joined. -/
import Derived.StillTail
import Derived.Laws.AppendOwn
import Derived.KernelRfl
import Derived.RowKit
import Derived.Below
set_option linter.unusedVariables false
set_option linter.unusedSimpArgs false
set_option linter.unusedSectionVars false
set_option maxHeartbeats 16000000
set_option maxRecDepth 100000
variable{b ld:Bool}{g x y:Int}{C R c d i j k n:Nat}{f v:Nat->Int}{σ τ:Nat->Nat}{F G:Nat->Nat->Int}{o:Go.Oper}{t u:Go.TypeId}{a:Go.Value}{W W' w:Go.World}
namespace Go.Proofs.YtkidaebmhlijlaaGreat
open Go.RowKit
def zB8(P:Program){α:Type}(ld:Bool):Sem α->Prop
 | .pure _=>True
 | .load _ _ k=>ld=true/\∀v,zB8 P ld (k v)
 | .new _ k=>∀r,zB8 P ld (k r)
 | .getObj _ k=>ld=true/\∀o,zB8 P ld (k o)
 | .choose _ k=>∀n,zB8 P ld (k n)
 | .program k=>zB8 P ld (k P)
 | .mark _ k=>zB8 P ld k
 | .halt _=>True
 |_=>False
theorem zEA{P:Program}{ld:Bool}{α β:Type}{f:α->Sem β}:∀{s:Sem α},zB8 P ld s->(∀a,zB8 P ld (f a))->zB8 P ld (s.bind f)
 | .pure _,_,h=>h _
 | .load _ _ k,h,hf=>⟨h.1,fun v=>zEA (s:=k v) (h.2 v) hf⟩
 | .new _ k,h,hf=>fun r=>zEA (s:=k r) (h r) hf
 | .getObj _ k,h,hf=>⟨h.1,fun r=>zEA (s:=k r) (h.2 r) hf⟩
 | .choose _ k,h,hf=>fun r=>zEA (s:=k r) (h r) hf
 | .program k,h,hf=>zEA (s:=k P) h hf
 | .mark _ k,h,hf=>zEA (s:=k) h hf
 | .halt _,_,_=>trivial
 | .store _ _ _ _,h,_=>h.elim
 | .shape _ _,h,_=>h.elim
 | .freeze _ _ _,h,_=>h.elim
 | .frozen _ _,h,_=>h.elim
 | .setObj _ _ _,h,_=>h.elim
 | .sys _ _,h,_=>h.elim
theorem zTl{P:Program}{at_:Addr}{k:Addr}(h:w.heap[at_.block]?=W.heap[at_.block]?):w.seen P at_ u k b=W.seen P at_ u k b:=by
 unfold World.seen;rw[h]
theorem zTk{P:Program}{at_:Addr}{k:Addr}{r}(h:W.seen P at_ u k b= .ok r):at_.block<W.heap.size:=by
 refine Nat.lt_of_not_le fun hn=>?_
 unfold World.seen at h;rw[Array.getElem?_eq_none hn]at h;simp only[bind,Except.bind]at h;repeat' split at h
 all_goals first|cases h|contradiction
theorem zL4{P:Program}{at_:Addr}{k:Addr}{r}(h:∀j,j<W.heap.size->w.heap[j]?=W.heap[j]?)(h1:W.viewLoad P at_ u k b= .ok r):w.viewLoad P at_ u k b= .ok r:=by
 have hlt:at_.block<W.heap.size:=by
  cases hs:W.seen P at_ u k b with
  |ok x=>exact zTk hs
  |error e=>
   unfold World.viewLoad at h1;rw[hs]at h1;simp only[bind,Except.bind]at h1;cases h1
 unfold World.viewLoad at h1 ⊢
 rw[zTl (h _ hlt)];exact h1
theorem zMf{P:Program}{a:Addr}{r}(h:∀j,j<W.heap.size->w.heap[j]?=W.heap[j]?)(h1:W.farLoad P a b= .ok r):a.block<W.heap.size/\w.farLoad P a b= .ok r:=by
 have hlt:a.block<W.heap.size:=by
  refine Nat.lt_of_not_le fun hn=>?_
  unfold World.farLoad at h1;rw[Array.getElem?_eq_none hn]at h1;cases h1
 refine⟨hlt,?_⟩;unfold World.farLoad at h1 ⊢
 rw[h _ hlt];split
 ·rename_i at_ u hb
  rw[hb]at h1;dsimp only at h1;split at h1
  ·rename_i r' hr
   rw[zL4 h hr];exact h1
  cases h1
 rename_i hb;split at h1
 ·rename_i at_ u hb'
  exact absurd hb' (hb at_ u)
 cases h1
theorem zEQ{P:Program}{ld:Bool}{α:Type}{x:α}:∀{s:Sem α} {W W':World},zB8 P ld s->s.run P W= .ok x W'->W.heap.size<=W'.heap.size/\W.drawn<=W'.drawn∧
  (W'.heap.size=W.heap.size->W'.drawn=W.drawn->W'=W/\∀w,(ld=true->∀j,j<W.heap.size->w.heap[j]?=W.heap[j]?)->s.run P w= .ok x w)
 | .pure a,W,W',_,h=>by
  simp only[Sem.run]at h;injection h with h1 h2
  subst h1 h2;exact⟨Nat.le_refl _,Nat.le_refl _,fun _ _=>⟨rfl,fun _ _=>rfl⟩⟩
 | .load m a k,W,W',ht,h=>by
  simp only[Sem.run]at h;split at h
  ·rename_i v hv
   obtain⟨i1,i2,i3⟩:=zEQ (s:=k v) (ht.2 v) h;refine⟨i1,i2,fun e1 e2=>?_⟩;obtain⟨j1,j2⟩:=i3 e1 e2;refine⟨j1,fun w hw=>?_⟩;have hlt:a.block<W.heap.size:=World.block_lt_of_cell? W _ hv;have hc:w.cell? a=some v:=(World.cell?_of_block (hw ht.1 _ hlt)).trans hv;simp only[Sem.run,hc];exact j2 w hw
  rename_i hv;split at h
  ·rename_i v l hf
   obtain⟨i1,i2,i3⟩:=zEQ (s:=k v) (ht.2 v) h;refine⟨i1,i2,fun e1 e2=>?_⟩;obtain⟨j1,j2⟩:=i3 e1 e2;refine⟨j1,fun w hw=>?_⟩;obtain⟨hlt,hf'⟩:=zMf (hw ht.1) hf;have hc:w.cell? a=none:=(World.cell?_of_block (hw ht.1 _ hlt)).trans hv;simp only[Sem.run,hc,hf'];exact j2 w hw
  cases h
 | .new o k,W,W',ht,h=>by
  simp only[Sem.run]at h;obtain⟨i1,i2,-⟩:=zEQ (s:=k _) (ht _) h;simp only[Array.size_push]at i1;exact⟨by omega,i2,fun e1 _=>by omega⟩
 | .getObj r k,W,W',ht,h=>by
  simp only[Sem.run]at h;split at h;cases h
  ·rename_i o hno ho
   obtain⟨i1,i2,i3⟩:=zEQ (s:=k _) (ht.2 _) h;refine⟨i1,i2,fun e1 e2=>?_⟩;obtain⟨j1,j2⟩:=i3 e1 e2;refine⟨j1,fun w hw=>?_⟩;have hlt:r<W.heap.size:=(Array.getElem?_eq_some_iff.1 ho).1;simp only[Sem.run];rw[hw ht.1 _ hlt,ho];split
   ·rename_i c e f heq
    injection heq with heq
    exact absurd heq (hno _ _ _)
   ·rename_i o' _ heq
    injection heq with heq
    subst heq;exact j2 w hw
   rename_i heq;cases heq
  cases h
 | .choose q k,W,W',ht,h=>by
  simp only[Sem.run]at h;split at h
  ·rename_i hq
   obtain⟨i1,i2,i3⟩:=zEQ (s:=k _) (ht _) h;refine⟨i1,i2,fun e1 e2=>?_⟩;obtain⟨j1,j2⟩:=i3 e1 e2;refine⟨j1,fun w hw=>?_⟩;simp only[Sem.run,hq,if_true];exact j2 w hw
  obtain⟨i1,i2,-⟩:=zEQ (s:=k _) (ht _) h;simp only at i1 i2;exact⟨i1,by omega,fun _ e2=>by omega⟩
 | .program k,W,W',ht,h=>by
  simp only[Sem.run]at h;obtain⟨i1,i2,i3⟩:=zEQ (s:=k P) ht h;exact⟨i1,i2,fun e1 e2=>⟨(i3 e1 e2).1,fun w hw=>by simp only[Sem.run];exact(i3 e1 e2).2 w hw⟩⟩
 | .mark m k,W,W',ht,h=>by
  simp only[Sem.run]at h;obtain⟨i1,i2,i3⟩:=zEQ (s:=k) ht h;exact⟨i1,i2,fun e1 e2=>⟨(i3 e1 e2).1,fun w hw=>by simp only[Sem.run];exact(i3 e1 e2).2 w hw⟩⟩
 | .halt _,_,_,_,h=>by simp only[Sem.run]at h;cases h
 | .store _ _ _ _,_,_,h,_=>h.elim
 | .shape _ _,_,_,h,_=>h.elim
 | .freeze _ _ _,_,_,h,_=>h.elim
 | .frozen _ _,_,_,h,_=>h.elim
 | .setObj _ _ _,_,_,h,_=>h.elim
 | .sys _ _,_,_,h,_=>h.elim
theorem zRP{P:Program}{α:Type}{x:α}{s:Sem α}(ht:zB8 P ld s)(h:s.run P W= .ok x W)(hw:ld=true->∀j,j<W.heap.size->w.heap[j]?=W.heap[j]?):s.run P w= .ok x w:=
 ((zEQ ht h).2.2 rfl rfl).2 w hw
theorem tb{P:Program}{α β:Type}{f:α->Sem β}{s:Sem α}(h:zB8 P ld s)(hf:∀a,zB8 P ld (f a)):zB8 P ld (s>>=f):=zEA h hf
theorem zL3{P:Program}{α:Type}{c:Prop}[Decidable c]{s u:Sem α}(h1:zB8 P ld s)(h2:zB8 P ld u):zB8 P ld (if c then s else u):=by split<;>assumption
theorem zJ2{P:Program}(t:TypeId):zB8 P ld (typeInfo t):=by
 unfold typeInfo;refine tb (show zB8 P ld program from trivial) fun p=>?_
 split<;>trivial
theorem zCX{P:Program}(t:TypeId):zB8 P ld (underlying t):=by
 unfold underlying;refine tb (show zB8 P ld program from trivial) fun p=>?_
 split<;>trivial
theorem zEB{P:Program}(t:TypeId):zB8 P ld (sizeOf t):=tb (zJ2 t) fun _=>trivial
theorem zNN{P:Program}(t:TypeId):zB8 P ld (zeroValue t):=tb (zJ2 t) fun _=>by split<;>trivial
theorem zLC{P:Program}(t:TypeId):zB8 P ld (isAgg t):=tb (zCX t) fun _=>by split<;>trivial
theorem zPw{P:Program}{α β:Type}{f:α->β}{s:Sem α}(h:zB8 P ld s):zB8 P ld (f<$>s):=zEA (f:=fun a=>pure (f a)) h fun _=>trivial
theorem zT9{P:Program}(t:TypeId):zB8 P ld (elemOf t):=tb (zCX t) fun _=>by split<;>trivial
theorem zOs{P:Program}(t:TypeId)(v:Value):zB8 P ld (newVar t v):=tb (show zB8 P ld (newObj _) from fun _=>trivial) fun _=>trivial
theorem zET{P:Program}{α:Type}(e:RuntimeError):zB8 P ld (runtimePanic e:Sem α):=by
 unfold runtimePanic;refine tb (show zB8 P ld program from trivial) fun p=>?_
 dsimp only;repeat' (first|exact trivial|split|refine tb (zT9 _) fun _=>?_|refine tb (zOs _ _) fun _=>?_)
theorem zFk{P:Program}{α:Type}(k:IntKind)(x y:Int)(c:BoundsCode):zB8 P ld (boundsPanic k x y c:Sem α):=by
 unfold boundsPanic;dsimp only;split;exact tb (zPw (show zB8 P ld (choose _) from fun _=>trivial)) fun _=>zET _
 exact tb (s:=pure _) trivial fun _=>zET _
theorem zNL{P:Program}(t:TypeId)(cs:Array Value)(k:Nat):zB8 P ld (part t cs k):=tb (zLC t) fun _=>by
 split;exact tb (zEB t) fun _=>trivial
 split<;>trivial
theorem zLB{P:Program}(a:Addr):∀(n i:Nat) (acc:Array Value),zB8 P true (loadCellsFrom a i n acc)
 |0,_,_=>trivial
 |n+1,i,acc=>tb (show zB8 P true (load _) from⟨rfl,fun _=>trivial⟩) fun _=>zLB a n _ _
theorem zNJ{P:Program}(t:TypeId)(a:Addr):zB8 P true (loadVar t a):=tb (zLC t) fun _=>by
 split;exact tb (zEB t) fun _=>tb (zLB a _ _ _) fun _=>trivial
 exact⟨rfl,fun _=>trivial⟩
theorem zHz{P:Program}(v:Value):zB8 P ld (Instr.sureAddr v):=by unfold Instr.sureAddr;split<;>trivial
theorem zL2{P:Program}(v:Value):zB8 P ld (asIntOf v):=by unfold asIntOf;split<;>trivial
theorem zFJ{P:Program}(x:Value)(y:Nat)(c:BoundsCode):zB8 P ld (Instr.sliceBound x y c):=tb (zL2 x) fun a=>by
 obtain⟨k,i⟩:=a;dsimp only;split;trivial;exact zFk _ _ _ _
theorem zIk{P:Program}(b:Bool)(n c:Nat)(l h m:Option Value):zB8 P ld (Instr.sliceBounds b n c l h m):=by
 unfold Instr.sliceBounds;have h3:∀(H M:Nat),zB8 P ld (do
   let l ← match l with
    |some v=>Instr.sliceBound v H (if m.isSome then .slice3C else .sliceB)
    |none=>pure 0
   pure (l,H,M)):=fun H M=>by
  cases l;trivial;exact tb (zFJ _ _ _) fun _=>trivial
 cases m<;>cases h
 exact h3 _ _;exact tb (s:=pure _) trivial fun _=>tb (zFJ _ _ _) fun _=>h3 _ _
 exact tb (zFJ _ _ _) fun _=>trivial
 exact tb (zFJ _ _ _) fun _=>tb (zFJ _ _ _) fun _=>h3 _ _
theorem zT6{P:Program}(v:Value):zB8 P ld (asAddr v):=by
 unfold asAddr;repeat' (first|exact trivial|exact zET _|split)
theorem zRO{P:Program}(t:TypeId)(x:Value)(l h m:Option Value):zB8 P ld (Instr.slice t x l h m):=by
 unfold Instr.slice;dsimp only;repeat' (first|exact trivial|refine tb (zCX _) fun _=>?_|refine tb (zIk _ _ _ _ _ _) fun _=>?_|refine tb (zEB _) fun _=>?_|refine tb (zT6 _) fun _=>?_|refine tb (s:=stuck _) trivial fun _=>?_|split)
theorem zNM{P:Program}(t:TypeId)(x:Value)(l h m:Option Value):zB8 P ld (Instr.sliceAt t x l h m):=by
 unfold Instr.sliceAt;dsimp only;repeat' (first|exact trivial|exact zRO _ _ _ _ _|refine tb (zCX _) fun _=>?_|refine tb (zIk _ _ _ _ _ _) fun _=>?_|refine tb (zEB _) fun _=>?_|refine tb (zHz _) fun _=>?_|split)
theorem zNI{P:Program}(t:TypeId)(x i:Value):zB8 P ld (Instr.indexAt t x i):=by
 unfold Instr.indexAt;refine tb (zL2 _) fun a=>?_
 obtain⟨k,n⟩:=a;have h3:∀(r:Option Addr × Nat × TypeId),zB8 P ld (match r with
   | (base,len,elem)=>do
    let tiny:=decide (len<=1) && (match ← underlying t with| .array ..=>true|_=>false);match base with
    |some a=>
     if 0<=n/\n<len then pure (.pointer (some (a.add (n.toNat*(← sizeOf elem)))))
     else if tiny then unsupported (.noEntry "op/indexAddr.an index out of range at an array of length 0 or 1 (ledger 616)")
     else boundsPanic k n len .index
    |none=>boundsPanic k n 0 .index:Sem Value):=fun r=>by
  obtain⟨base,len,elem⟩:=r;refine tb (zCX _) fun d=>?_
  cases base with
  |none=>exact zFk _ _ _ _
  | some a=>
   dsimp only;by_cases hc:0<=n/\n<len
   ·rw[if_pos hc]
    exact tb (zEB _) fun _=>trivial
   rw[if_neg hc];refine show zB8 P ld (if _ then _ else _) from ?_
   generalize (decide (len<=1) && _)=q;cases q;exact zFk _ _ _ _;trivial
 refine tb (zCX _) fun d=>?_
 split;exact tb (zHz _) fun _=>tb (s:=pure _) trivial fun _=>h3 _
 exact tb (s:=pure _) trivial fun _=>h3 _
 trivial
theorem zRL{P:Program}(t:TypeId)(x i:Value):zB8 P ld (Instr.index t x i):=by
 unfold Instr.index;repeat' (first|exact trivial|exact zFk _ _ _ _|exact zNL _ _ _|refine tb (zL2 _) fun _=>?_|refine tb (zCX _) fun _=>?_|refine tb (zEB _) fun _=>?_|split)
theorem zVj{P:Program}(v:Value):zB8 P ld (asAgg v):=by unfold asAgg;split<;>trivial
theorem zRJ{P:Program}(t:TypeId)(x:Value)(i:Nat):zB8 P ld (Instr.field t x i):=by
 unfold Instr.field;repeat' (first|exact trivial|exact zNL _ _ _|refine tb (zCX _) fun _=>?_|refine tb (zVj _) fun _=>?_|split)
theorem zNF{P:Program}(x:Value)(i:Nat):zB8 P ld (Instr.extract x i):=by
 unfold Instr.extract;repeat' (first|exact trivial|split)
theorem zRM{P:Program}(t:TypeId)(x:Value):zB8 P ld (Instr.makeInterface t x):=by
 unfold Instr.makeInterface;repeat' (first|exact trivial|refine tb (zCX _) fun _=>?_|split)
theorem zOr{P:Program}(x:Value)(t u:TypeId)(b:Bool):zB8 P ld (Instr.typeAssert x t u b):=by
 unfold Instr.typeAssert;dsimp only;repeat' (first|exact trivial|exact zET _|refine tb (zCX _) fun _=>?_|refine tb (zJ2 _) fun _=>?_|refine tb (zNN _) fun _=>?_|split)
theorem zRQ{P:Program}(op:UnOp)(x:Value):zB8 P ld (Op.unary op x):=by
 unfold Op.unary Op.intArith Op.intBits;dsimp only;repeat' (first|exact trivial|split)
def zN0(P:Program)(s:TypeId)(f:Nat):Bool:=
 match P.underlying s with
 | some (.struct fs)=>match fs[f]? with
  |some d=>match P.info? d.type with
   |some i=>i.size !=0
   |none=>true
  |none=>true
 |_=>true
theorem zNG{P:Program}(t:TypeId)(x:Value)(i:Nat)(h:zN0 P t i=true):zB8 P ld (Instr.fieldAt t x i):=by
 unfold zN0 at h;show zB8 P ld (Sem.program _);show zB8 P ld (Sem.bind (match P.underlying t with|some d=>pure d|none=>stuck "no such type") _);cases hu:P.underlying t with
 |none=>trivial
 | some d=>
  rw[hu]at h;cases d with
  | struct fs=>
   dsimp only at h;show zB8 P ld (match (fs[i]?:Option Field)with
    |some f=>do
     let a ← Instr.sureAddr x;let __do_lift ← fieldPlace a f;pure (Value.pointer (some __do_lift))
    |_=>stuck "fieldAddr: no such field")
   cases hf:fs[i]? with
   |none=>trivial
   |some f=>
    rw[hf]at h;dsimp only at h;refine tb (zHz _) fun a=>?_
    refine tb ?_ fun _=>trivial
    unfold fieldPlace sizeOf typeInfo;show zB8 P ld (Sem.bind (Sem.bind (match P.info? f.type with|some i=>pure i|none=>stuck "no such type") _) _);cases hi:P.info? f.type with
    |none=>trivial
    |some i=>
     rw[hi]at h;show zB8 P ld (if i.size=0 then _ else _);rw[if_neg (by simpa using h)];trivial
  |_=>trivial
theorem zNK{P:Program}{ld:Bool}{α β:Type}{f:α->Sem β}(h:∀x,zB8 P ld (f x)):∀l:List α,zB8 P ld (l.mapM f)
 | []=>by rw[List.mapM_nil];trivial
 |x::l=>by rw[List.mapM_cons];exact tb (h x) fun _=>tb (zNK h l) fun _=>trivial
theorem zRI{P:Program}(t:TypeId)(ps:Array (Nat × Value)):zB8 P ld (Instr.build t ps):=by
 unfold Instr.build;refine tb (zNN t) fun _=>tb (zCX t) fun _=>?_
 split
 ·refine tb ?_ fun _=>?_
  ·rw[Array.mapM_eq_mapM_toList]
   exact zPw (zNK (f:=fun f:Field=>do pure (f.offset,<-sizeOf f.type)) (fun _=>tb (zEB _) fun _=>trivial) _)
  split<;>trivial
 ·refine tb (zEB _) fun _=>?_
  split<;>trivial
 trivial
def zNl:Value->Value->Bool
 | .int _ _,.int _ _| .bool _,.bool _| .string _,.string _| .nilIface,.iface _ _| .iface _ _,.nilIface| .nilIface,.nilIface
 | .pointer none,.pointer _| .pointer _,.pointer none| .slice none _ _,.slice _ _ _| .slice _ _ _,.slice none _ _| .map none,.map _| .map _,.map none
 | .nilFunc,.nilFunc| .nilFunc,.func _ _ _| .func _ _ _,.nilFunc=>true
 |_,_=>false
def zXL:Value->Bool
 | .slice _ _ _| .string _| .map _=>true
 |_=>false
def zNa(P:Program)(ρ:Operand->Value)(o:Oper):Bool:=
 match o.op with
 | .move _| .assign _| .pick _ _ _| .load _ _| .unOp _ _ _| .field _ _ _| .indexAddr _ _ _| .index _ _ _| .slice _ _ _ _ _| .extract _ _| .makeInterface _ _| .makeFunc _ _ _| .typeAssert _ _ _ _| .build _ _=>true
 | .fieldAddr s _ f=>zN0 P s f
 | .nilCheck x=>match ρ x with| .pointer (some _)=>true|_=>false
 | .binOp _ _ x y _=>zNl (ρ x) (ρ y)
 | .convert s d x=>match P.underlying s,P.underlying d,ρ x with|some (.int _),some (.int _),.int _ _=>true|_,_,_=>false
 | .call c=>match c.callee with| .builtin .len=>zXL ((c.args.map ρ).getD 0 .nilIface)|_=>false
 |_=>false
theorem zIR{P:Program}{ld:Bool}{a b:Value}(h:zNl a b=true):∀(d:Nat) (t:TypeId),zB8 P ld (Op.equalIn d t a b)
 |0,_=>trivial
 |d+1,t=>by
  unfold Op.equalIn;refine tb (zCX t) fun e=>?_
  unfold zNl at h;split at h<;>first|cases h|skip
  all_goals cases e<;>first|exact trivial|(cases ‹Option Addr›<;>exact trivial)|(cases ‹Option Nat›<;>exact trivial)|(refine show zB8 P ld (if _ then _ else _) from ?_;split<;>trivial)
theorem zNH{P:Program}{ld:Bool}:∀(d:Nat) (t:TypeId),zB8 P ld (Op.eqGuardIn d t .nilIface .nilIface)
 |0,_=>trivial
 |d+1,t=>by
  unfold Op.eqGuardIn;refine tb (zCX t) fun e=>?_
  cases e<;>trivial
theorem zRK{P:Program}{op:BinOp}{x y:Operand}{b:Value}(h:zNl a b=true):zB8 P ld (eqGuard op t x y a b):=by
 unfold zNl at h;split at h<;>first|cases h|skip
 all_goals cases op<;>first|exact trivial|skip
 all_goals exact zL3 trivial (zL3 trivial (tb (zNH _ _) fun q=>zL3 trivial trivial))
theorem zRN{P:Program}{op:BinOp}{k yk:IntKind}:zB8 P ld (Op.shift op k x yk y):=by
 unfold Op.shift;split;exact zET _;cases op<;>trivial
theorem zRH{P:Program}{op:BinOp}{k:IntKind}:zB8 P ld (Op.intArith op k x y):=by
 unfold Op.intArith;cases op<;>trivial
theorem zVm{P:Program}{op:BinOp}{k:IntKind}:zB8 P ld (Op.intDiv op k x y):=by
 unfold Op.intDiv;split;exact zET _;cases op<;>trivial
theorem zT7{P:Program}{op:BinOp}{k:IntKind}:zB8 P ld (Op.intBits op k x y):=by
 unfold Op.intBits;cases op<;>trivial
theorem zVl{P:Program}{op:BinOp}:zB8 P ld (Op.intCmp op x y):=by
 unfold Op.intCmp;cases op<;>trivial
theorem zVo{P:Program}{op:BinOp}{x y:ByteArray}:zB8 P ld (Op.stringOp op x y):=by
 unfold Op.stringOp;cases op<;>first|trivial|(dsimp only;split<;>trivial)
theorem zVk{P:Program}{op:BinOp}{b:Value}(h:zNl a b=true):zB8 P ld (binOp op t a b):=by
 have hq:∀n:Bool,zB8 P ld (do pure (.bool (n !=(← Op.equal t a b))):Sem Value):=fun n=>tb (zIR (P:=P) (ld:=ld) h Op.maxDepth t) fun _=>trivial
 have h0:=hq false;have h1:=tb (f:=fun q=>(pure (.bool (!q)):Sem Value)) (zIR (P:=P) (ld:=ld) h Op.maxDepth t) fun _=>trivial
 have h2:=tb (f:=fun q=>(pure (.bool q):Sem Value)) (zIR (P:=P) (ld:=ld) h Op.maxDepth t) fun _=>trivial
 clear h0 hq;unfold zNl at h;split at h<;>first|cases h|skip
 ·rename_i k x k' y
  have hh:∀s:Sem Value,zB8 P ld s->zB8 P ld (if k≠k' then stuck "BinOp: operands of different kinds" else s):=fun s hs=>by split<;>first|exact trivial|exact hs
  have h3:=zRN (P:=P) (ld:=ld) (op:=op) (k:=k) (yk:=k') (x:=x) (y:=y);have h4:=hh _ (zRH (P:=P) (ld:=ld) (op:=op) (k:=k) (x:=x) (y:=y));have h5:=hh _ (zVm (P:=P) (ld:=ld) (op:=op) (k:=k) (x:=x) (y:=y));have h6:=hh _ (zT7 (P:=P) (ld:=ld) (op:=op) (k:=k) (x:=x) (y:=y));have h7:=hh _ (zVl (P:=P) (ld:=ld) (op:=op) (x:=x) (y:=y));clear h1 h2 hh;cases op<;>first|exact h3|exact h4|exact h5|exact h6|exact h7
 cases op<;>first|exact trivial|exact h1|exact h2
 ·rename_i x y
  have h3:=zVo (P:=P) (ld:=ld) (op:=op) (x:=x) (y:=y);clear h1 h2;cases op<;>exact h3
 all_goals cases op<;>first|exact trivial|exact h1|exact h2|(cases ‹Option Addr›<;>exact trivial)
theorem zVn{P:Program}{ts:Array TypeId}{xs:Array Value}(h:zXL (xs.getD 0 .nilIface)=true):zB8 P true (Builtin.len_ ts t xs):=by
 unfold Builtin.len_;rw[Array.getD_eq_getD_getElem?]at h;cases ts[0]? with
 |none=>trivial
 | some u=>
  cases hx:xs[0]? with
  |none=>trivial
  |some x=>
   rw[hx]at h;dsimp only[Option.getD_some]at h;refine tb (zCX _) fun d=>?_
   unfold zXL at h;split at h<;>first|cases h|skip
   all_goals cases d<;>first|exact trivial|exact tb (zCX _) fun e=>(by cases e<;>trivial)|skip
   cases ‹Option Nat›;trivial;exact tb (show zB8 P true (getObj _) from⟨rfl,fun _=>trivial⟩) fun o=>(by cases o<;>trivial)
theorem zT8{P:Program}{s d:TypeId}{x:Value}{j k i:IntKind}{n:Int}(h1:P.underlying s=some (.int j))(h2:P.underlying d=some (.int k))(h3:x= .int i n):zB8 P ld (convert s d x):=by
 subst h3;refine show zB8 P ld (Sem.bind (match P.underlying s with|some d=>pure d|none=>stuck "no such type") _) from ?_
 rw[h1];refine show zB8 P ld (Sem.bind (match P.underlying d with|some d=>pure d|none=>stuck "no such type") _) from ?_
 rw[h2];trivial
def zFi(o:Oper):Bool:=
 match o.op with
 | .load _ _| .call _=>true
 |_=>false
theorem zXl{P:Program}{ρ:Operand->Value}(h:zNa P ρ o=true):zB8 P (zFi o) (execOp ρ o):=by
 have hr:∀t a,o.op= .load t a->zFi o=true:=fun t a e=>by unfold zFi;rw[e]
 have hc:∀c,o.op= .call c->zFi o=true:=fun c e=>by unfold zFi;rw[e]
 generalize zFi o=ld at*;unfold zNa at h;unfold execOp;dsimp only;split at h;rename_i e;rw[e];trivial;rename_i e;rw[e];trivial;rename_i c a b e;rw[e];exact tb (by unfold asBool;split<;>trivial) fun _=>trivial
 rename_i e;obtain rfl:=hr _ _ e;rw[e];exact tb (tb (zHz _) fun _=>zNJ _ _) fun _=>trivial
 rename_i e;rw[e];exact tb (zRQ _ _) fun _=>trivial
 rename_i e;rw[e];exact tb (zRJ _ _ _) fun _=>trivial
 rename_i e;rw[e];exact tb (zNI _ _ _) fun _=>trivial
 rename_i e;rw[e];exact tb (zRL _ _ _) fun _=>trivial
 rename_i e;rw[e];exact tb (zNM _ _ _ _ _) fun _=>trivial
 rename_i e;rw[e];exact tb (zNF _ _) fun _=>trivial
 rename_i e;rw[e];exact tb (zRM _ _) fun _=>trivial
 rename_i e;rw[e];exact tb (s:=pure _) trivial fun _=>trivial
 rename_i e;rw[e];exact tb (zOr _ _ _ _) fun _=>trivial
 rename_i e;rw[e];exact tb (zRI _ _) fun _=>trivial
 rename_i e;rw[e];exact tb (zNG _ _ _ h) fun _=>trivial
 ·rename_i x e
  rw[e];dsimp only;split at h;rename_i a ea;rw[ea];trivial;cases h
 rename_i e;rw[e];exact tb (tb (zRK h) fun _=>zVk h) fun _=>trivial
 ·rename_i s d x e
  rw[e];dsimp only;split at h;rename_i e1 e2 e3;exact tb (zT8 e1 e2 e3) fun _=>trivial
  cases h
 ·rename_i c e
  obtain rfl:=hc _ e;rw[e];dsimp only;split at h
  ·rename_i ec
   unfold resolve;rw[ec];refine show zB8 P true (Sem.bind (Builtin.len_ c.argTypes o.type (c.args.map ρ)) fun a=>(Sem.pure (Next.value a))) from ?_
   exact tb (zVn h) fun _=>trivial
  cases h
 cases h
theorem zCD{P:Program}{α:Type}{s:Sem α}{f:α->Value}{x:Next}(h:(s>>=fun a=>pure (Next.value (f a)):Sem Next).run P W= .ok x W'):∃v,x= .value v:=by
 rw[Sem.run_bind]at h;cases hs:s.run P W with
 |ok a w=>
  rw[hs]at h;injection h with h _
  exact⟨_,h.symm⟩
 |halt _ _=>rw[hs]at h;cases h
theorem zY1{P:Program}{ρ:Operand->Value}{x:Next}(h:zNa P ρ o=true)(hr:(execOp ρ o).run P W= .ok x W'):∃v,x= .value v:=by
 unfold zNa at h;unfold execOp at hr;dsimp only at hr;split at h;rename_i e;rw[e]at hr;injection hr with hr _;exact⟨_,hr.symm⟩
 rename_i e;rw[e]at hr;injection hr with hr _;exact⟨_,hr.symm⟩
 rename_i c a b e;rw[e]at hr;exact zCD (f:=fun q=>if q=true then ρ a else ρ b) hr;rename_i e;rw[e]at hr;exact zCD (f:=id) hr;rename_i e;rw[e]at hr;exact zCD (f:=id) hr;rename_i e;rw[e]at hr;exact zCD (f:=id) hr;rename_i e;rw[e]at hr;exact zCD (f:=id) hr;rename_i e;rw[e]at hr;exact zCD (f:=id) hr;rename_i e;rw[e]at hr;exact zCD (f:=id) hr;rename_i e;rw[e]at hr;exact zCD (f:=id) hr;rename_i e;rw[e]at hr;exact zCD (f:=id) hr;rename_i e;rw[e]at hr;exact zCD (f:=id) hr;rename_i e;rw[e]at hr;exact zCD (f:=id) hr;rename_i e;rw[e]at hr;exact zCD (f:=id) hr;rename_i e;rw[e]at hr;exact zCD (f:=id) hr
 ·rename_i x e
  rw[e]at hr;dsimp only at hr;split at h;rename_i a ea;rw[ea]at hr;injection hr with hr _;exact⟨_,hr.symm⟩
  cases h
 rename_i e;rw[e]at hr;exact zCD (f:=id) hr;rename_i e;rw[e]at hr;exact zCD (f:=id) hr
 ·rename_i c e
  rw[e]at hr;dsimp only at hr;split at h
  ·rename_i ec
   unfold resolve at hr;rw[ec]at hr;exact zCD (s:=Builtin.len_ c.argTypes o.type (c.args.map ρ)) (f:=id) hr
  cases h
 cases h
end Go.Proofs.YtkidaebmhlijlaaGreat

namespace Go.Proofs.YtkidaebmhlijlaaGreat
abbrev MF:=Nat->Nat->Int
theorem zKW{a b:Int}(h:a=b):a∣b:=⟨1,by rw[h,Int.mul_one]⟩
def zT:Nat->(Nat->Int)->Int
 |0,_=>0
 |n+1,f=>zT n f+f n
theorem zF{g:Nat->Int}(h:∀i,i<n->f i=g i):zT n f=zT n g:=by
 induction n with
 |zero=>rfl
 |succ n ih=>unfold zT;rw[ih (fun i hi=>h i (by omega)),h n (by omega)]
theorem zAS(h:∀i,i<n->f i=0):zT n f=0:=by
 induction n with
 |zero=>rfl
 |succ n ih=>unfold zT;rw[ih (fun i hi=>h i (by omega)),h n (by omega)];rfl
theorem zBQ(n:Nat)(f g:Nat->Int):zT n (fun i=>f i+g i)=zT n f+zT n g:=by
 induction n with
 |zero=>rfl
 |succ n ih=>unfold zT;rw[ih];dsimp only;omega
theorem yX(n:Nat)(k:Int)(f:Nat->Int):zT n (fun i=>k*f i)=k*zT n f:=by
 induction n with
 |zero=>unfold zT;rw[Int.mul_zero]
 |succ n ih=>unfold zT;rw[ih,Int.mul_add]
theorem zDC(n:Nat)(k:Int)(f:Nat->Int):zT n (fun i=>f i*k)=zT n f*k:=by
 rw[Int.mul_comm,<-yX];exact zF fun i _=>Int.mul_comm _ _
theorem zPq(n:Nat)(x y:Int)(f g:Nat->Int):zT n (fun i=>x*f i+y*g i)=x*zT n f+y*zT n g:=by
 rw[zBQ,yX,yX]
theorem zLA(n:Nat)(f:Nat->Int):zT (n+1) f=f 0+zT n (fun i=>f (i+1)):=by
 induction n with
 |zero=>unfold zT zT;omega
 |succ n ih=>
  have h:zT (n+1+1) f=zT (n+1) f+f (n+1):=rfl;have h2:zT (n+1) (fun i=>f (i+1))=zT n (fun i=>f (i+1))+f (n+1):=rfl;rw[h,h2,ih];omega
theorem zBj(n m:Nat)(f:Nat->Nat->Int):zT n (fun i=>zT m (fun j=>f i j))=zT m (fun j=>zT n (fun i=>f i j)):=by
 induction n with
 |zero=>exact(zAS fun _ _=>rfl).symm
 |succ n ih=>
  show zT n (fun i=>zT m (fun j=>f i j))+zT m (fun j=>f n j)=zT m (fun j=>zT n (fun i=>f i j)+f n j);rw[zBQ,ih]
theorem zAB(hc:c<n)(h:∀i,i<n->i≠c->f i=0):zT n f=f c:=by
 induction n with
 |zero=>omega
 | succ n ih=>
  unfold zT;by_cases e:c=n
  ·subst e
   rw[zAS (fun i hi=>h i (by omega) (by omega))];omega
  rw[ih (by omega) (fun i hi hne=>h i (by omega) hne),h n (by omega) (by omega)];omega
theorem zVh(hc:c+1<n)(h:∀i,i<n->i≠c->i≠c+1->f i=0):zT n f=f c+f (c+1):=by
 induction n with
 |zero=>omega
 | succ n ih=>
  unfold zT;by_cases e:c+1=n
  ·subst e
   rw[zAB (c:=c) (by omega) (fun i hi hne=>h i (by omega) hne (by omega))]
  rw[ih (by omega) (fun i hi h1 h2=>h i (by omega) h1 h2),h n (by omega) (by omega) (by omega)];omega
theorem zVf(h:∀i,i<n->g∣f i):g∣zT n f:=by
 induction n with
 |zero=>exact⟨0,by unfold zT;omega⟩
 |succ n ih=>exact Int.dvd_add (ih fun i hi=>h i (by omega)) (h n (by omega))
theorem zDm{m:Nat}(hnm:n<=m)(h:∀i,n<=i->i<m->f i=0):zT m f=zT n f:=by
 induction m with
 |zero=>
  obtain rfl:n=0:=by omega
  rfl
 | succ m ih=>
  rcases Nat.lt_or_ge n (m+1)with h1|h1
  ·unfold zT
   rw[ih (by omega) (fun i a b=>h i a (by omega)),h m (by omega) (by omega)];have:∀n,zT n f=zT n f:=fun _=>rfl
   cases n<;>simp[zT]
  obtain rfl:n=m+1:=by omega
  rfl
theorem zDN{B:Nat}(h:∀i,i<n->(f i).natAbs<=B):(zT n f).natAbs<=n*B:=by
 induction n with
 |zero=>simp[zT]
 |succ n ih=>
  have h1:=ih fun i hi=>h i (by omega)
  have h2:=h n (by omega);have h3:(zT n f+f n).natAbs<=(zT n f).natAbs+(f n).natAbs:=by omega
  have h4:(n+1)*B=n*B+B:=Nat.succ_mul n B;unfold zT;omega
def sk(j b:Nat):Nat:=if b<j then b else b+1
theorem zZf(j b:Nat):sk j b≠j:=by unfold sk;split<;>omega
theorem zRC{b:Nat}(h:b<k):sk j b<k+1:=by unfold sk;split<;>omega
theorem zEf(b:Nat):sk 0 b=b+1:=by unfold sk;split<;>omega
theorem zYy{a b:Nat}(h:sk j a=sk j b):a=b:=by
 unfold sk at h;split at h<;>split at h<;>omega
def mnr(F:Nat->Nat->Int)(i j:Nat):Nat->Nat->Int:=fun a b=>F (sk i a) (sk j b)
def sg1(j:Nat):Int:=if j%2=0 then 1 else-1
theorem zVd:sg1 0=1:=rfl
theorem zLz(j:Nat):sg1 (j+1)=-sg1 j:=by unfold sg1;split<;>split<;>omega
theorem zTp(j:Nat)(z:Int):(sg1 j*z).natAbs=z.natAbs:=by unfold sg1;split<;>omega
def det:Nat->(Nat->Nat->Int)->Int
 |0,_=>1
 |k+1,F=>zT (k+1) fun j=>sg1 j*(F 0 j*det k (mnr F 0 j))
theorem zCj(k:Nat)(F:Nat->Nat->Int):det (k+1) F=zT (k+1) fun j=>sg1 j*(F 0 j*det k (mnr F 0 j)):=rfl
theorem zAe:∀{F G:Nat->Nat->Int},(∀a,a<k->∀b,b<k->F a b=G a b)->det k F=det k G:=by
 induction k with
 |zero=>intros;rfl
 |succ k ih=>
  intro F G h;rw[zCj,zCj];refine zF fun j hj=>?_
  rw[h 0 (by omega) j hj,ih (F:=mnr F 0 j) (G:=mnr G 0 j) fun a ha b hb=>h _ (zRC ha) _ (zRC hb)]
def zDB(F:Nat->Nat->Int)(c:Nat)(v:Nat->Int):Nat->Nat->Int:=fun a b=>if b=c then v a else F a b
def zKA(F:Nat->Nat->Int)(c:Nat)(v:Nat->Int):Nat->Nat->Int:=fun a b=>if a=c then v b else F a b
theorem zFZ(F:Nat->Nat->Int)(i c:Nat)(v:Nat->Int):mnr (zDB F c v) i c=mnr F i c:=by
 funext a b
 unfold mnr zDB;rw[if_neg (zZf c b)]
theorem zLm{c':Nat}(h:sk j c=c'):mnr (zDB F c' v) i j=zDB (mnr F i j) c (fun a=>v (sk i a)):=by
 funext a b
 unfold mnr zDB;by_cases e:b=c
 ·rw[if_pos e,if_pos (by rw[e,h])]
 rw[if_neg e,if_neg (fun e'=>e (zYy (e'.trans h.symm)))]
theorem zYz(h:c≠j):∃c',sk j c'=c/\(∀k,j<k+1->c<k+1->c'<k):=by
 by_cases h1:c<j
 ·exact⟨c,by unfold sk;rw[if_pos h1],fun k _ _=>by omega⟩
 exact⟨c-1,by unfold sk;rw[if_neg (by omega)];omega,fun k _ _=>by omega⟩
theorem zJP:∀{F:Nat->Nat->Int} {c:Nat} {v w:Nat->Int} {x y:Int},c<k->
  det k (zDB F c fun a=>x*v a+y*w a)=x*det k (zDB F c v)+y*det k (zDB F c w):=by
 induction k with
 |zero=>intro F c v w x y h;omega
 | succ k ih=>
  intro F c v w x y hc;rw[zCj,zCj,zCj,<-zPq];refine zF fun j hj=>?_
  by_cases e:j=c
  ·subst e
   rw[zFZ,zFZ,zFZ];unfold zDB;simp only[if_true];rw[Int.add_mul,Int.mul_add,Int.mul_assoc x,Int.mul_assoc y,Int.mul_left_comm (sg1 j) x,Int.mul_left_comm (sg1 j) y]
  obtain⟨c',h1,h2⟩:=zYz (j:=j) (c:=c) (fun h=>e h.symm);rw[zLm h1,zLm h1,zLm h1,ih (h2 k hj hc)];have:∀u:Nat->Int,zDB F c u 0 j=F 0 j:=fun u=>by unfold zDB;rw[if_neg e]
  rw[this,this,this,Int.mul_add,Int.mul_add,Int.mul_left_comm (F 0 j) x,Int.mul_left_comm (F 0 j) y,Int.mul_left_comm (sg1 j) x,Int.mul_left_comm (sg1 j) y]
theorem zHw(F:Nat->Nat->Int)(c:Nat):zDB F c (fun a=>F a c)=F:=by
 funext a b
 unfold zDB;split;rename_i h;rw[h];rfl
theorem zTo(F:Nat->Nat->Int)(c:Nat):zKA F c (F c)=F:=by
 funext a b
 unfold zKA;split;rename_i h;rw[h];rfl
theorem zFR:∀{F:Nat->Nat->Int} {c:Nat},c+1<k->(∀a,F a c=F a (c+1))->det k F=0:=by
 induction k with
 |zero=>intro F c h;omega
 | succ k ih=>
  intro F c hc h;rw[zCj,zVh (c:=c) hc]
  ·rw[zLz,h 0]
   have:mnr F 0 c=mnr F 0 (c+1):=by
    funext a b
    unfold mnr;by_cases e:b=c
    ·rw[e]
     have h1:sk c c=c+1:=by unfold sk;rw[if_neg (by omega)]
     have h2:sk (c+1) c=c:=by unfold sk;rw[if_pos (by omega)]
     rw[h1,h2,h]
    have:sk c b=sk (c+1) b:=by unfold sk;split<;>split<;>omega
    rw[this]
   rw[this,Int.neg_mul];omega
  intro j hj h1 h2;have:det k (mnr F 0 j)=0:=by
   rcases Nat.lt_or_ge j c with h3|h3
   ·refine ih (c:=c-1) (by omega) fun a=>?_
    unfold mnr;have e1:sk j (c-1)=c:=by unfold sk;rw[if_neg (by omega)];omega
    have e2:sk j (c-1+1)=c+1:=by unfold sk;rw[if_neg (by omega)];omega
    rw[e1,e2,h]
   refine ih (c:=c) (by omega) fun a=>?_
   unfold mnr;have e1:sk j c=c:=by unfold sk;rw[if_pos (by omega)]
   have e2:sk j (c+1)=c+1:=by unfold sk;rw[if_pos (by omega)]
   rw[e1,e2,h]
  rw[this,Int.mul_zero,Int.mul_zero]
theorem zHC{w:Nat->Int}(h:c<k):det k (zDB F c fun a=>v a+w a)=det k (zDB F c v)+det k (zDB F c w):=by
 have:=zJP (F:=F) (v:=v) (w:=w) (x:=1) (y:=1) h;rw[Int.one_mul,Int.one_mul]at this;rw[<-this];congr 1
 funext a b
 unfold zDB;split
 ·show v a+w a=1*v a+1*w a
  rw[Int.one_mul,Int.one_mul]
 rfl
theorem zFG(F:Nat->Nat->Int)(c d:Nat)(v w:Nat->Int)(h:c≠d):zDB (zDB F c v) d w=zDB (zDB F d w) c v:=by
 funext a b
 unfold zDB;by_cases e:b=d
 ·rw[if_pos e,if_neg (by omega),if_pos e]
 rw[if_neg e];by_cases e2:b=c
 ·rw[if_pos e2,if_pos e2]
 rw[if_neg e2,if_neg e2,if_neg e]
theorem zIZ(hc:c+1<k)(h:∀a b,G a b=F a (if b=c then c+1 else if b=c+1 then c else b)):det k G=-det k F:=by
 have key:∀v w:Nat->Int,det k (zDB (zDB F c v) (c+1) w)=-det k (zDB (zDB F c w) (c+1) v):=by
  intro v w;have h0:det k (zDB (zDB F c fun a=>v a+w a) (c+1) fun a=>v a+w a)=0:=zFR hc fun a=>by
   unfold zDB;rw[if_neg (by omega),if_pos rfl,if_pos rfl]
  have hv:det k (zDB (zDB F c v) (c+1) v)=0:=zFR hc fun a=>by
   unfold zDB;rw[if_neg (by omega),if_pos rfl,if_pos rfl]
  have hw:det k (zDB (zDB F c w) (c+1) w)=0:=zFR hc fun a=>by
   unfold zDB;rw[if_neg (by omega),if_pos rfl,if_pos rfl]
  rw[zHC hc,zFG _ _ _ _ v (by omega),zFG _ _ _ _ w (by omega),zHC (by omega),zHC (by omega)]at h0;rw[zFG _ _ _ _ v (by omega)]at hv;rw[zFG _ _ _ _ w (by omega)]at hw;rw[zFG F c (c+1) v w (by omega),zFG F c (c+1) w v (by omega)];omega
 have h1:=key (fun a=>F a (c+1)) (fun a=>F a c);have e1:zDB (zDB F c fun a=>F a (c+1)) (c+1) (fun a=>F a c)=G:=by
  funext a b
  rw[h];unfold zDB;by_cases e:b=c
  ·rw[if_neg (by omega),if_pos e,if_pos e]
  rw[if_neg e,if_neg e];split<;>rfl
 have e2:zDB (zDB F c fun a=>F a c) (c+1) (fun a=>F a (c+1))=F:=by rw[zHw,zHw]
 rw[<-e1,h1,e2]
theorem zE6(hcd:c<d)(hd:d<k)(h:∀a,F a c=F a d):det k F=0:=by
 obtain⟨n,hn⟩:∃n,d=c+1+n:=⟨d-(c+1),by omega⟩;induction n generalizing F d with
 |zero=>subst hn;exact zFR hd h
 | succ n ih=>
  have h1:=zIZ (k:=k) (F:=F) (G:=fun a b=>F a (if b=d-1 then d-1+1 else if b=d-1+1 then d-1 else b)) (c:=d-1) (by omega) fun a b=>rfl
  have h2:=ih (F:=fun a b=>F a (if b=d-1 then d-1+1 else if b=d-1+1 then d-1 else b)) (d:=d-1) (by omega) (by omega) (fun a=>by
   rw[if_neg (by omega),if_neg (by omega),if_pos rfl,h];congr 1;omega) (by omega)
  omega
theorem zHW(k:Nat):∀F:Nat->Nat->Int,det (k+1) F=zT (k+1) fun i=>sg1 i*(F i 0*det k (mnr F i 0)):=by
 induction k with
 |zero=>intro F;rfl
 | succ k ih=>
  intro F;rw[zCj,zLA,zLA _ (fun i=>sg1 i*(F i 0*det (k+1) (mnr F i 0)))];congr 1;have e1:∀j,det (k+1) (mnr F 0 (j+1))=zT (k+1) fun i=>sg1 i*(F (i+1) 0*det k (fun a b=>F (sk i a+1) (sk j b+1))):=by
   intro j;rw[ih];refine zF fun i hi=>?_
   have a1:mnr F 0 (j+1) i 0=F (i+1) 0:=by
    unfold mnr;rw[zEf];rfl
   have a2:mnr (mnr F 0 (j+1)) i 0=fun a b=>F (sk i a+1) (sk j b+1):=by
    funext a b
    unfold mnr;rw[zEf,zEf];congr 1;unfold sk;split<;>split<;>omega
   rw[a1,a2]
  have e2:∀i,det (k+1) (mnr F (i+1) 0)=zT (k+1) fun j=>sg1 j*(F 0 (j+1)*det k (fun a b=>F (sk i a+1) (sk j b+1))):=by
   intro i;rw[zCj];refine zF fun j hj=>?_
   have a1:mnr F (i+1) 0 0 j=F 0 (j+1):=by
    unfold mnr;rw[zEf];rfl
   have a2:mnr (mnr F (i+1) 0) 0 j=fun a b=>F (sk i a+1) (sk j b+1):=by
    funext a b
    unfold mnr;rw[zEf,zEf];congr 1;unfold sk;split<;>split<;>omega
   rw[a1,a2]
  have l1:zT (k+1) (fun j=>sg1 (j+1)*(F 0 (j+1)*det (k+1) (mnr F 0 (j+1))))=zT (k+1) fun j=>zT (k+1) fun i=>sg1 (j+1)*(F 0 (j+1)*(sg1 i*(F (i+1) 0*det k (fun a b=>F (sk i a+1) (sk j b+1))))):=by
   refine zF fun j hj=>?_
   rw[e1 j,<-yX,<-yX]
  have l2:zT (k+1) (fun i=>sg1 (i+1)*(F (i+1) 0*det (k+1) (mnr F (i+1) 0)))=zT (k+1) fun i=>zT (k+1) fun j=>sg1 (i+1)*(F (i+1) 0*(sg1 j*(F 0 (j+1)*det k (fun a b=>F (sk i a+1) (sk j b+1))))):=by
   refine zF fun i hi=>?_
   rw[e2 i,<-yX,<-yX]
  rw[l1,l2,zBj];refine zF fun i hi=>zF fun j hj=>?_
  rw[zLz,zLz];generalize det k _=D;generalize F 0 (j+1)=P;generalize F (i+1) 0=Q;generalize sg1 i=s;generalize sg1 j=t;grind
def trp(F:Nat->Nat->Int):Nat->Nat->Int:=fun a b=>F b a
theorem zC5(k:Nat):∀F:Nat->Nat->Int,det k (trp F)=det k F:=by
 induction k with
 |zero=>intro F;rfl
 |succ k ih=>
  intro F;rw[zCj,zHW];refine zF fun j hj=>?_
  have:mnr (trp F) 0 j=trp (mnr F j 0):=rfl;rw[this,ih];rfl
theorem zJQ{F:Nat->Nat->Int}{v w:Nat->Int}{x y:Int}(h:c<k):
  det k (zKA F c fun a=>x*v a+y*w a)=x*det k (zKA F c v)+y*det k (zKA F c w):=by
 have e:∀u,trp (zKA F c u)=zDB (trp F) c u:=fun u=>rfl
 rw[<-zC5,<-zC5 k (zKA F c v),<-zC5 k (zKA F c w),e,e,e];exact zJP h
theorem zCN(h:c<k)(h0:∀b,b<k->F c b=0):det k F=0:=by
 have:=zJQ (F:=F) (v:=F c) (w:=F c) (x:=0) (y:=0) h;rw[Int.zero_mul (det k _),Int.zero_add]at this;rw[<-this];refine zAe fun a ha b hb=>?_
 unfold zKA;split;rename_i e;rw[e,h0 b hb];simp;rfl
theorem zIa(h:c<k)(h0:∀a,a<k->F a c=0):det k F=0:=by
 rw[<-zC5];exact zCN h fun b hb=>h0 b hb
theorem zGR(hcd:c<d)(hd:d<k)(h:∀b,F c b=F d b):det k F=0:=by
 rw[<-zC5];exact zE6 hcd hd h
theorem zMX(hc:c+1<k)(h:∀a b,G a b=F (if a=c then c+1 else if a=c+1 then c else a) b):det k G=-det k F:=by
 rw[<-zC5 k G,<-zC5 k F];exact zIZ hc fun a b=>h b a
theorem zHE{R:Nat}{F:Nat->Nat->Int}{c:Nat->Int}{v:Nat->Nat->Int}(h:i<k):
  det k (zKA F i fun b=>zT R fun t=>c t*v t b)=zT R fun t=>c t*det k (zKA F i (v t)):=by
 induction R with
 |zero=>exact zCN h fun b hb=>by unfold zKA;rw[if_pos rfl];rfl
 | succ R ih=>
  show det k (zKA F i fun b=>zT R (fun t=>c t*v t b)+c R*v R b)=_;have e:(fun b=>zT R (fun t=>c t*v t b)+c R*v R b)=fun b=>1*(fun b=>zT R fun t=>c t*v t b) b+c R*v R b:=by
   funext b
   rw[Int.one_mul]
  rw[e,zJQ h,ih,Int.one_mul];rfl
theorem zCs{P:Nat->Nat->Int}(h:∀σ:Nat->Nat,(∀a,a<k->σ a<R)->g∣det k fun a b=>F (σ a) b):
  g∣det k fun a b=>zT R fun t=>P a t*F t b:=by
 have key:∀i,i<=k->∀σ:Nat->Nat,(∀a,a<k->σ a<R)->g∣det k fun a b=>if a<i then zT R fun t=>P a t*F t b else F (σ a) b:=by
  intro i;induction i with
  |zero=>
   intro _ σ hσ;have:=h σ hσ;simpa using this
  | succ i ih=>
   intro hi σ hσ;have e:(fun a b=>if a<i+1 then zT R fun t=>P a t*F t b else F (σ a) b)=zKA (fun a b=>if a<i then zT R fun t=>P a t*F t b else F (σ a) b) i fun b=>zT R fun t=>P i t*F t b:=by
    funext a b
    unfold zKA;by_cases e:a=i
    ·rw[if_pos e,if_pos (by omega),e]
    rw[if_neg e];dsimp only;by_cases e2:a<i
    ·rw[if_pos e2,if_pos (by omega)]
    rw[if_neg e2,if_neg (by omega)]
   rw[e,zHE (by omega)];refine zVf fun t ht=>Int.dvd_trans ?_ (Int.dvd_mul_left _ _)
   have:=ih (by omega) (fun a=>if a=i then t else σ a) fun a ha=>by
    split;exact ht;exact hσ a ha
   have e3:(fun a b=>if a<i then zT R fun t=>P a t*F t b else F ((fun a=>if a=i then t else σ a) a) b)=zKA (fun a b=>if a<i then zT R fun t=>P a t*F t b else F (σ a) b) i (F t):=by
    funext a b
    unfold zKA;dsimp only;by_cases e:a=i
    ·rw[if_pos e,if_pos e,if_neg (by omega)]
    rw[if_neg e,if_neg e]
   rw[e3]at this;exact this
 by_cases hR:0<R
 ·have:=key k (Nat.le_refl _) (fun _=>0) (fun _ _=>hR)
  refine Int.dvd_trans this (zKW (zAe fun a ha b hb=>?_));rw[if_pos ha]
 obtain rfl:R=0:=by omega
 rcases Nat.eq_zero_or_pos k with hk|hk
 ·subst hk
  exact h (fun _=>0) (fun a ha=>by omega)
 rw[zCN hk fun b hb=>rfl];exact Int.dvd_zero g
theorem zEq{Q:Nat->Nat->Int}(h:∀τ:Nat->Nat,(∀a,a<k->τ a<C)->g∣det k fun a b=>F a (τ b)):
  g∣det k fun a b=>zT C fun t=>F a t*Q t b:=by
 rw[<-zC5];have:=zCs (k:=k) (R:=C) (F:=trp F) (P:=trp Q) (g:=g) fun σ hσ=>by
  rw[<-zC5];exact h σ hσ
 refine Int.dvd_trans this (zKW (zAe fun a ha b hb=>?_));unfold trp;exact zF fun t ht=>Int.mul_comm _ _
theorem zFy{P Q:Nat->Nat->Int}(h:∀σ τ:Nat->Nat,(∀a,a<k->σ a<R)->(∀a,a<k->τ a<C)->g∣det k fun a b=>F (σ a) (τ b)):
  g∣det k fun a b=>zT R fun s=>P a s*zT C fun t=>F s t*Q t b:=
 zCs (F:=fun s b=>zT C fun t=>F s t*Q t b) fun σ hσ=>zEq (F:=fun a b=>F (σ a) b) fun τ hτ=>h σ τ hσ hτ
def Inc(k:Nat)(σ:Nat->Nat):Prop:=∀a,a+1<k->σ a<σ (a+1)
def wt:Nat->(Nat->Nat)->Nat
 |0,_=>0
 |n+1,σ=>wt n σ+n*σ n
theorem zY3(h:∀a,a<n->σ a<R):wt n σ<=n*(n*R):=by
 induction n with
 |zero=>simp[wt]
 |succ n ih=>
  have h1:=ih fun a ha=>h a (by omega)
  have h2:=h n (by omega);unfold wt;have h3:n*σ n<=n*R:=Nat.mul_le_mul_left _ (by omega);have h4:n*(n*R)<=n*((n+1)*R):=Nat.mul_le_mul_left _ (Nat.mul_le_mul_right _ (by omega));have h5:(n+1)*((n+1)*R)=n*((n+1)*R)+(n+1)*R:=Nat.succ_mul _ _;have h6:(n+1)*R=n*R+R:=Nat.succ_mul _ _;omega
theorem zV5(h:∀a,a<n->σ a=τ a):wt n σ=wt n τ:=by
 induction n with
 |zero=>rfl
 |succ n ih=>unfold wt;rw[ih fun a ha=>h a (by omega),h n (by omega)]
theorem zUM(hc:c+1<n)(h:∀a,τ a=σ (if a=c then c+1 else if a=c+1 then c else a))(hlt:σ (c+1)<σ c):wt n σ<wt n τ:=by
 obtain⟨m,rfl⟩:∃m,n=c+2+m:=⟨n-(c+2),by omega⟩;clear hc;induction m with
 |zero=>
  show wt c σ+c*σ c+(c+1)*σ (c+1)<wt c τ+c*τ c+(c+1)*τ (c+1);have h1:wt c σ=wt c τ:=zV5 fun a ha=>by rw[h,if_neg (by omega),if_neg (by omega)]
  have h2:τ c=σ (c+1):=by rw[h,if_pos rfl]
  have h3:τ (c+1)=σ c:=by rw[h,if_neg (by omega),if_pos rfl]
  rw[h1,h2,h3];have e1:(c+1)*σ (c+1)=c*σ (c+1)+σ (c+1):=Nat.succ_mul _ _;have e2:(c+1)*σ c=c*σ c+σ c:=Nat.succ_mul _ _;omega
 |succ m ih=>
  show wt (c+2+m) σ+(c+2+m)*σ (c+2+m)<wt (c+2+m) τ+(c+2+m)*τ (c+2+m);have h1:τ (c+2+m)=σ (c+2+m):=by rw[h,if_neg (by omega),if_neg (by omega)]
  rw[h1];omega
theorem zDQ(h:∀σ:Nat->Nat,(∀a,a<k->σ a<R)->Inc k σ->g∣det k fun a b=>F (σ a) b):
  ∀σ:Nat->Nat,(∀a,a<k->σ a<R)->g∣det k fun a b=>F (σ a) b:=by
 have key:∀n,∀σ:Nat->Nat,(∀a,a<k->σ a<R)->k*(k*R)-wt k σ<=n->g∣det k fun a b=>F (σ a) b:=by
  intro n;induction n with
  | zero=>
   intro σ hσ hn;by_cases hi:∀a,a+1<k->σ a<σ (a+1)
   ·exact h σ hσ hi
   obtain⟨c,hc⟩:=Classical.not_forall.1 hi;obtain⟨hc1,hc2⟩:=Classical.not_imp.1 hc;rcases Nat.lt_or_ge (σ (c+1)) (σ c)with h1|h1
   ·have hs:=zUM (n:=k) (σ:=σ) (τ:=fun a=>σ (if a=c then c+1 else if a=c+1 then c else a)) hc1 (fun a=>rfl) h1
    have hl:=zY3 (n:=k) (R:=R) (σ:=fun a=>σ (if a=c then c+1 else if a=c+1 then c else a)) fun a ha=>hσ _ (by split;omega;split<;>omega)
    omega
   rw[zGR (c:=c) (d:=c+1) (by omega) hc1 (fun b=>by
    have:σ c=σ (c+1):=by omega
    show F (σ c) b=F (σ (c+1)) b;rw[this])]
   exact Int.dvd_zero g
  | succ n ih=>
   intro σ hσ hn;by_cases hi:∀a,a+1<k->σ a<σ (a+1)
   ·exact h σ hσ hi
   obtain⟨c,hc⟩:=Classical.not_forall.1 hi;obtain⟨hc1,hc2⟩:=Classical.not_imp.1 hc;rcases Nat.lt_or_ge (σ (c+1)) (σ c)with h1|h1
   ·have hs:=zUM (n:=k) (σ:=σ) (τ:=fun a=>σ (if a=c then c+1 else if a=c+1 then c else a)) hc1 (fun a=>rfl) h1
    have hr:∀a,a<k->σ (if a=c then c+1 else if a=c+1 then c else a)<R:=fun a ha=>hσ _ (by split;omega;split<;>omega)
    have hl:=zY3 (n:=k) (R:=R) (σ:=fun a=>σ (if a=c then c+1 else if a=c+1 then c else a)) hr;have:=ih (fun a=>σ (if a=c then c+1 else if a=c+1 then c else a)) hr (by omega);rw[zMX (F:=fun a b=>F (σ a) b) hc1 (fun a b=>rfl)]at this;exact Int.dvd_neg.1 this
   rw[zGR (c:=c) (d:=c+1) (by omega) hc1 (fun b=>by
    have:σ c=σ (c+1):=by omega
    show F (σ c) b=F (σ (c+1)) b;rw[this])]
   exact Int.dvd_zero g
 exact fun σ hσ=>key _ σ hσ (Nat.le_refl _)
theorem zMc(h:∀τ:Nat->Nat,(∀a,a<k->τ a<C)->Inc k τ->g∣det k fun a b=>F a (τ b)):
  ∀τ:Nat->Nat,(∀a,a<k->τ a<C)->g∣det k fun a b=>F a (τ b):=by
 intro τ hτ;rw[<-zC5];refine zDQ (F:=trp F) (fun σ hσ hi=>?_) τ hτ;rw[<-zC5];exact h σ hσ hi
theorem zF2(h:∀σ τ:Nat->Nat,(∀a,a<k->σ a<R)->(∀a,a<k->τ a<C)->Inc k σ->Inc k τ->g∣det k fun a b=>F (σ a) (τ b)):
  ∀σ τ:Nat->Nat,(∀a,a<k->σ a<R)->(∀a,a<k->τ a<C)->g∣det k fun a b=>F (σ a) (τ b):=by
 intro σ τ hσ hτ;refine zDQ (F:=fun a b=>F a (τ b)) (fun σ hσ hi=>?_) σ hσ;exact zMc (F:=fun a b=>F (σ a) b) (fun τ hτ hj=>h σ τ hσ hτ hi hj) τ hτ
theorem Inc.le(h:Inc k σ):∀a,a<k->a<=σ a:=by
 intro a;induction a with
 |zero=>intro _;omega
 |succ a ih=>
  intro ha;have h1:=ih (by omega);have h2:=h a ha;omega
theorem Inc.lt(h:Inc k σ):∀a b,a<b->b<k->σ a<σ b:=by
 intro a b hab;induction b with
 |zero=>omega
 | succ b ih=>
  intro hb;have h2:=h b hb;rcases Nat.lt_or_ge a b with h3|h3
  ·have:=ih h3 (by omega)
   omega
  obtain rfl:a=b:=by omega
  exact h2
def jB:Nat->(Nat->Int)->Int
 |0,_=>1
 |n+1,f=>jB n f*f n
theorem zJn{g:Nat->Int}(h:∀i,i<n->f i=g i):jB n f=jB n g:=by
 induction n with
 |zero=>rfl
 |succ n ih=>unfold jB;rw[ih (fun i hi=>h i (by omega)),h n (by omega)]
theorem zOX(n:Nat)(f:Nat->Int):jB (n+1) f=f 0*jB n (fun i=>f (i+1)):=by
 induction n with
 |zero=>unfold jB jB;rw[Int.one_mul,Int.mul_one]
 |succ n ih=>
  have h:jB (n+1+1) f=jB (n+1) f*f (n+1):=rfl;have h2:jB (n+1) (fun i=>f (i+1))=jB n (fun i=>f (i+1))*f (n+1):=rfl;rw[h,h2,ih,Int.mul_assoc]
theorem zAI(h:∀i,i<n->0<f i):0<jB n f:=by
 induction n with
 |zero=>exact Int.one_pos
 |succ n ih=>exact Int.mul_pos (ih fun i hi=>h i (by omega)) (h n (by omega))
theorem zHq{g:Nat->Int}(h:∀i,i<n->f i∣g i):jB n f∣jB n g:=by
 induction n with
 |zero=>exact Int.dvd_refl _
 |succ n ih=>exact Int.mul_dvd_mul (ih fun i hi=>h i (by omega)) (h n (by omega))
theorem zK0(hc:c<n)(h:f c=0):jB n f=0:=by
 induction n with
 |zero=>omega
 |succ n ih=>
  unfold jB;by_cases e:c=n
  ·rw[<-e,h,Int.mul_zero]
  rw[ih (by omega),Int.zero_mul]
theorem zD6:∀{F:Nat->Nat->Int},(∀a,a<k->∀b,b<k->a<b->F a b=0)->det k F=jB k fun i=>F i i:=by
 induction k with
 |zero=>intros;rfl
 | succ k ih=>
  intro F h;rw[zCj,zAB (c:=0) (by omega),zVd,Int.one_mul,zOX,ih];rfl
  ·intro a ha b hb hab
   unfold mnr;rw[zEf,zEf];exact h _ (by omega) _ (by omega) (by omega)
  intro j hj hne;rw[h 0 (by omega) j hj (by omega),Int.zero_mul,Int.mul_zero]
theorem zFz(h:∀a,a<k->∀b,b<k->b<a->F a b=0):det k F=jB k fun i=>F i i:=by
 rw[<-zC5,zD6];rfl;intro a ha b hb hab;exact h b hb a ha hab
def zNz:Nat->Nat
 |0=>1
 |n+1=>(n+1)*zNz n
theorem zQA{h:Nat}:∀{F:Nat->Nat->Int},(∀a,a<k->∀b,b<k->(F a b).natAbs<=h)->(det k F).natAbs<=zNz k*h^k:=by
 induction k with
 |zero=>intro F _;simp[det,zNz]
 | succ k ih=>
  intro F hF;rw[zCj];refine Nat.le_trans (zDN (B:=h*(zNz k*h^k)) fun j hj=>?_) ?_
  ·rw[zTp,Int.natAbs_mul]
   exact Nat.mul_le_mul (hF 0 (by omega) j hj) (ih fun a ha b hb=>hF _ (zRC ha) _ (zRC hb))
  show _<=(k+1)*zNz k*h^(k+1);rw[Nat.pow_succ];apply Nat.le_of_eq;rw[Nat.mul_left_comm h,Nat.mul_comm h,Nat.mul_assoc]
end Go.Proofs.YtkidaebmhlijlaaGreat
