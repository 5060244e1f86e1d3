/- Joined. -/
import Derived.StillTail
import Derived.Laws.AppendOwn
import Derived.KernelRfl
import Derived.RowKit
import Derived.Below
set_option linter.unusedVariables false
set_option linter.unusedSimpArgs false
set_option linter.unusedSectionVars false
set_option maxHeartbeats 16000000
set_option maxRecDepth 100000
variable{b ld:Bool}{g x y:Int}{C R c d i j k n:Nat}{f v:Nat->Int}{σ τ:Nat->Nat}{F G:Nat->Nat->Int}{o:Go.Oper}{t u:Go.TypeId}{a:Go.Value}{W W' w:Go.World}
namespace Go.Proofs.YtkidaebmhlijlaaGreat
open Go.RowKit
def zCM(P:Program){α:Type}(ld:Bool):Sem α->Prop
 | .pure _=>True
 | .load _ _ k=>ld=true/\∀v,zCM P ld (k v)
 | .new _ k=>∀r,zCM P ld (k r)
 | .getObj _ k=>ld=true/\∀o,zCM P ld (k o)
 | .choose _ k=>∀n,zCM P ld (k n)
 | .program k=>zCM P ld (k P)
 | .mark _ k=>zCM P ld k
 | .halt _=>True
 |_=>False
theorem zEO{P:Program}{ld:Bool}{c d:Type}{f:c->Sem d}:∀{s:Sem c},zCM P ld s->(∀a,zCM P ld (f a))->zCM P ld (s.bind f)
 | .pure _,_,h=>h _
 | .load _ _ k,h,b=>⟨h.1,fun v=>zEO (s:=k v) (h.2 v) b⟩
 | .new _ k,h,b=>fun r=>zEO (s:=k r) (h r) b
 | .getObj _ k,h,b=>⟨h.1,fun r=>zEO (s:=k r) (h.2 r) b⟩
 | .choose _ k,h,b=>fun r=>zEO (s:=k r) (h r) b
 | .program k,h,b=>zEO (s:=k P) h b
 | .mark _ k,h,b=>zEO (s:=k) h b
 | .halt _,_,_=>trivial
 | .store _ _ _ _,h,_=>h.elim
 | .shape _ _,h,_=>h.elim
 | .freeze _ _ _,h,_=>h.elim
 | .frozen _ _,h,_=>h.elim
 | .setObj _ _ _,h,_=>h.elim
 | .sys _ _,h,_=>h.elim
theorem zUh{P:Program}{a:Addr}{k:Addr}(h:w.heap[a.block]?=W.heap[a.block]?):w.seen P a u k b=W.seen P a u k b:=by
 unfold World.seen;rw[h]
theorem zUg{P:Program}{a:Addr}{k:Addr}{r}(h:W.seen P a u k b= .ok r):a.block<W.heap.size:=by
 refine Nat.lt_of_not_le fun c=>?_
 unfold World.seen at h;rw[Array.getElem?_eq_none c]at h;simp only[bind,Except.bind]at h;repeat' split at h
 all_goals first|cases h|contradiction
theorem zMr{P:Program}{a:Addr}{k:Addr}{r}(h:∀j,j<W.heap.size->w.heap[j]?=W.heap[j]?)(h1:W.viewLoad P a u k b= .ok r):w.viewLoad P a u k b= .ok r:=by
 have d:a.block<W.heap.size:=by
  cases c:W.seen P a u k b with
  |ok x=>exact zUg c
  |error e=>
   unfold World.viewLoad at h1;rw[c]at h1;simp only[bind,Except.bind]at h1;cases h1
 unfold World.viewLoad at h1 ⊢
 rw[zUh (h _ d)];exact h1
theorem zNQ{P:Program}{a:Addr}{r}(h:∀j,j<W.heap.size->w.heap[j]?=W.heap[j]?)(h1:W.farLoad P a b= .ok r):a.block<W.heap.size/\w.farLoad P a b= .ok r:=by
 have e:a.block<W.heap.size:=by
  refine Nat.lt_of_not_le fun g=>?_
  unfold World.farLoad at h1;rw[Array.getElem?_eq_none g]at h1;cases h1
 refine⟨e,?_⟩;unfold World.farLoad at h1 ⊢
 rw[h _ e];split
 .rename_i d u c
  rw[c]at h1;dsimp only at h1;split at h1
  .rename_i k i
   rw[zMr h i];exact h1
  cases h1
 rename_i c;split at h1
 .rename_i d u f
  exact absurd f (c d u)
 cases h1
theorem zEd{P:Program}{ld:Bool}{E:Type}{x:E}:∀{s:Sem E} {W W':World},zCM P ld s->s.run P W= .ok x W'->W.heap.size<=W'.heap.size/\W.drawn<=W'.drawn∧
  (W'.heap.size=W.heap.size->W'.drawn=W.drawn->W'=W/\∀w,(ld=true->∀j,j<W.heap.size->w.heap[j]?=W.heap[j]?)->s.run P w= .ok x w)
 | .pure a,W,W',_,h=>by
  simp only[Sem.run]at h;injection h with F G
  subst F G;exact⟨Nat.le_refl _,Nat.le_refl _,fun _ _=>⟨rfl,fun _ _=>rfl⟩⟩
 | .load m a k,W,W',b,h=>by
  simp only[Sem.run]at h;split at h
  .rename_i v B
   obtain⟨d,i,t⟩:=zEd (s:=k v) (b.2 v) h;refine⟨d,i,fun n p=>?_⟩;obtain⟨y,z⟩:=t n p;refine⟨y,fun w g=>?_⟩;have A:a.block<W.heap.size:=World.block_lt_of_cell? W _ B;have C:w.cell? a=some v:=(World.cell?_of_block (g b.1 _ A)).trans B;simp only[Sem.run,C];exact z w g
  rename_i B;split at h
  .rename_i v l H
   obtain⟨d,i,t⟩:=zEd (s:=k v) (b.2 v) h;refine⟨d,i,fun n p=>?_⟩;obtain⟨y,z⟩:=t n p;refine⟨y,fun w g=>?_⟩;obtain⟨A,I⟩:=zNQ (g b.1) H;have C:w.cell? a=none:=(World.cell?_of_block (g b.1 _ A)).trans B;simp only[Sem.run,C,I];exact z w g
  cases h
 | .new o k,W,W',b,h=>by
  simp only[Sem.run]at h;obtain⟨d,i,-⟩:=zEd (s:=k _) (b _) h;simp only[Array.size_push]at d;exact⟨by omega,i,fun n _=>by omega⟩
 | .getObj r k,W,W',b,h=>by
  simp only[Sem.run]at h;split at h;cases h
  .rename_i o J D
   obtain⟨d,i,t⟩:=zEd (s:=k _) (b.2 _) h;refine⟨d,i,fun n p=>?_⟩;obtain⟨y,z⟩:=t n p;refine⟨y,fun w g=>?_⟩;have A:r<W.heap.size:=(Array.getElem?_eq_some_iff.1 D).1;simp only[Sem.run];rw[g b.1 _ A,D];split
   .rename_i c e f u
    injection u with u
    exact absurd u (J _ _ _)
   .rename_i L _ u
    injection u with u
    subst u;exact z w g
   rename_i u;cases u
  cases h
 | .choose q k,W,W',b,h=>by
  simp only[Sem.run]at h;split at h
  .rename_i K
   obtain⟨d,i,t⟩:=zEd (s:=k _) (b _) h;refine⟨d,i,fun n p=>?_⟩;obtain⟨y,z⟩:=t n p;refine⟨y,fun w g=>?_⟩;simp only[Sem.run,K,if_true];exact z w g
  obtain⟨d,i,-⟩:=zEd (s:=k _) (b _) h;simp only at d i;exact⟨d,by omega,fun _ p=>by omega⟩
 | .program k,W,W',b,h=>by
  simp only[Sem.run]at h;obtain⟨d,i,t⟩:=zEd (s:=k P) b h;exact⟨d,i,fun n p=>⟨(t n p).1,fun w g=>by simp only[Sem.run];exact(t n p).2 w g⟩⟩
 | .mark m k,W,W',b,h=>by
  simp only[Sem.run]at h;obtain⟨d,i,t⟩:=zEd (s:=k) b h;exact⟨d,i,fun n p=>⟨(t n p).1,fun w g=>by simp only[Sem.run];exact(t n p).2 w g⟩⟩
 | .halt _,_,_,_,h=>by simp only[Sem.run]at h;cases h
 | .store _ _ _ _,_,_,h,_=>h.elim
 | .shape _ _,_,_,h,_=>h.elim
 | .freeze _ _ _,_,_,h,_=>h.elim
 | .frozen _ _,_,_,h,_=>h.elim
 | .setObj _ _ _,_,_,h,_=>h.elim
 | .sys _ _,_,_,h,_=>h.elim
theorem zSQ{P:Program}{a:Type}{x:a}{s:Sem a}(b:zCM P ld s)(h:s.run P W= .ok x W)(c:ld=true->∀j,j<W.heap.size->w.heap[j]?=W.heap[j]?):s.run P w= .ok x w:=
 ((zEd b h).2.2 rfl rfl).2 w c
theorem tb{P:Program}{b d:Type}{f:b->Sem d}{s:Sem b}(h:zCM P ld s)(c:∀a,zCM P ld (f a)):zCM P ld (s>>=f):=zEO h c
theorem zMp{P:Program}{a:Type}{c:Prop}[Decidable c]{s u:Sem a}(h1:zCM P ld s)(h2:zCM P ld u):zCM P ld (if c then s else u):=by split<;>assumption
theorem zKd{P:Program}(t:TypeId):zCM P ld (typeInfo t):=by
 unfold typeInfo;refine tb (show zCM P ld program from trivial) fun p=>?_
 split<;>trivial
theorem zCo{P:Program}(t:TypeId):zCM P ld (underlying t):=by
 unfold underlying;refine tb (show zCM P ld program from trivial) fun p=>?_
 split<;>trivial
theorem zEP{P:Program}(t:TypeId):zCM P ld (sizeOf t):=tb (zKd t) fun _=>trivial
theorem zOE{P:Program}(t:TypeId):zCM P ld (zeroValue t):=tb (zKd t) fun _=>by split<;>trivial
theorem zLr{P:Program}(t:TypeId):zCM P ld (isAgg t):=tb (zCo t) fun _=>by split<;>trivial
theorem zQp{P:Program}{b c:Type}{f:b->c}{s:Sem b}(h:zCM P ld s):zCM P ld (f<$>s):=zEO (f:=fun a=>pure (f a)) h fun _=>trivial
theorem zU9{P:Program}(t:TypeId):zCM P ld (elemOf t):=tb (zCo t) fun _=>by split<;>trivial
theorem zPn{P:Program}(t:TypeId)(v:Value):zCM P ld (newVar t v):=tb (show zCM P ld (newObj _) from fun _=>trivial) fun _=>trivial
theorem zEg{P:Program}{a:Type}(e:RuntimeError):zCM P ld (runtimePanic e:Sem a):=by
 unfold runtimePanic;refine tb (show zCM P ld program from trivial) fun p=>?_
 dsimp only;repeat' (first|exact trivial|split|refine tb (zU9 _) fun _=>?_|refine tb (zPn _ _) fun _=>?_)
theorem zFr{P:Program}{a:Type}(k:IntKind)(x y:Int)(c:BoundsCode):zCM P ld (boundsPanic k x y c:Sem a):=by
 unfold boundsPanic;dsimp only;split;exact tb (zQp (show zCM P ld (choose _) from fun _=>trivial)) fun _=>zEg _
 exact tb (s:=pure _) trivial fun _=>zEg _
theorem zOC{P:Program}(t:TypeId)(cs:Array Value)(k:Nat):zCM P ld (part t cs k):=tb (zLr t) fun _=>by
 split;exact tb (zEP t) fun _=>trivial
 split<;>trivial
theorem zLq{P:Program}(a:Addr):∀(n i:Nat) (b:Array Value),zCM P true (loadCellsFrom a i n b)
 |0,_,_=>trivial
 |n+1,i,b=>tb (show zCM P true (load _) from⟨rfl,fun _=>trivial⟩) fun _=>zLq a n _ _
theorem zOA{P:Program}(t:TypeId)(a:Addr):zCM P true (loadVar t a):=tb (zLr t) fun _=>by
 split;exact tb (zEP t) fun _=>tb (zLq a _ _ _) fun _=>trivial
 exact⟨rfl,fun _=>trivial⟩
theorem zH8{P:Program}(v:Value):zCM P ld (Instr.sureAddr v):=by unfold Instr.sureAddr;split<;>trivial
theorem zMo{P:Program}(v:Value):zCM P ld (asIntOf v):=by unfold asIntOf;split<;>trivial
theorem zFV{P:Program}(x:Value)(y:Nat)(c:BoundsCode):zCM P ld (Instr.sliceBound x y c):=tb (zMo x) fun a=>by
 obtain⟨k,i⟩:=a;dsimp only;split;trivial;exact zFr _ _ _ _
theorem zIw{P:Program}(b:Bool)(n c:Nat)(l h m:Option Value):zCM P ld (Instr.sliceBounds b n c l h m):=by
 unfold Instr.sliceBounds;have a:∀(H M:Nat),zCM P ld (do
   let l ← match l with
    |some v=>Instr.sliceBound v H (if m.isSome then .slice3C else .sliceB)
    |none=>pure 0
   pure (l,H,M)):=fun H M=>by
  cases l;trivial;exact tb (zFV _ _ _) fun _=>trivial
 cases m<;>cases h
 exact a _ _;exact tb (s:=pure _) trivial fun _=>tb (zFV _ _ _) fun _=>a _ _
 exact tb (zFV _ _ _) fun _=>trivial
 exact tb (zFV _ _ _) fun _=>tb (zFV _ _ _) fun _=>a _ _
theorem zU6{P:Program}(v:Value):zCM P ld (asAddr v):=by
 unfold asAddr;repeat' (first|exact trivial|exact zEg _|split)
theorem zSP{P:Program}(t:TypeId)(x:Value)(l h m:Option Value):zCM P ld (Instr.slice t x l h m):=by
 unfold Instr.slice;dsimp only;repeat' (first|exact trivial|refine tb (zCo _) fun _=>?_|refine tb (zIw _ _ _ _ _ _) fun _=>?_|refine tb (zEP _) fun _=>?_|refine tb (zU6 _) fun _=>?_|refine tb (s:=stuck _) trivial fun _=>?_|split)
theorem zOD{P:Program}(t:TypeId)(x:Value)(l h m:Option Value):zCM P ld (Instr.sliceAt t x l h m):=by
 unfold Instr.sliceAt;dsimp only;repeat' (first|exact trivial|exact zSP _ _ _ _ _|refine tb (zCo _) fun _=>?_|refine tb (zIw _ _ _ _ _ _) fun _=>?_|refine tb (zEP _) fun _=>?_|refine tb (zH8 _) fun _=>?_|split)
theorem zN9{P:Program}(t:TypeId)(x i:Value):zCM P ld (Instr.indexAt t x i):=by
 unfold Instr.indexAt;refine tb (zMo _) fun a=>?_
 obtain⟨k,n⟩:=a;have f:∀(r:Option Addr × Nat × TypeId),zCM P ld (match r with
   | (c,b,e)=>do
    let h:=decide (b<=1) && (match ← underlying t with| .array ..=>true|_=>false);match c with
    |some a=>
     if 0<=n/\n<b then pure (.pointer (some (a.add (n.toNat*(← sizeOf e)))))
     else if h then unsupported (.noEntry "op/indexAddr.an index out of range at an array of length 0 or 1 (ledger 616)")
     else boundsPanic k n b .index
    |none=>boundsPanic k n 0 .index:Sem Value):=fun r=>by
  obtain⟨c,b,e⟩:=r;refine tb (zCo _) fun d=>?_
  cases c with
  |none=>exact zFr _ _ _ _
  | some a=>
   dsimp only;by_cases g:0<=n/\n<b
   .rw[if_pos g]
    exact tb (zEP _) fun _=>trivial
   rw[if_neg g];refine show zCM P ld (if _ then _ else _) from ?_
   generalize (decide (b<=1) && _)=q;cases q;exact zFr _ _ _ _;trivial
 refine tb (zCo _) fun d=>?_
 split;exact tb (zH8 _) fun _=>tb (s:=pure _) trivial fun _=>f _
 exact tb (s:=pure _) trivial fun _=>f _
 trivial
theorem zSM{P:Program}(t:TypeId)(x i:Value):zCM P ld (Instr.index t x i):=by
 unfold Instr.index;repeat' (first|exact trivial|exact zFr _ _ _ _|exact zOC _ _ _|refine tb (zMo _) fun _=>?_|refine tb (zCo _) fun _=>?_|refine tb (zEP _) fun _=>?_|split)
theorem zWn{P:Program}(v:Value):zCM P ld (asAgg v):=by unfold asAgg;split<;>trivial
theorem zSK{P:Program}(t:TypeId)(x:Value)(i:Nat):zCM P ld (Instr.field t x i):=by
 unfold Instr.field;repeat' (first|exact trivial|exact zOC _ _ _|refine tb (zCo _) fun _=>?_|refine tb (zWn _) fun _=>?_|split)
theorem zN6{P:Program}(x:Value)(i:Nat):zCM P ld (Instr.extract x i):=by
 unfold Instr.extract;repeat' (first|exact trivial|split)
theorem zSN{P:Program}(t:TypeId)(x:Value):zCM P ld (Instr.makeInterface t x):=by
 unfold Instr.makeInterface;repeat' (first|exact trivial|refine tb (zCo _) fun _=>?_|split)
theorem zPm{P:Program}(x:Value)(t u:TypeId)(b:Bool):zCM P ld (Instr.typeAssert x t u b):=by
 unfold Instr.typeAssert;dsimp only;repeat' (first|exact trivial|exact zEg _|refine tb (zCo _) fun _=>?_|refine tb (zKd _) fun _=>?_|refine tb (zOE _) fun _=>?_|split)
theorem zSR{P:Program}(op:UnOp)(x:Value):zCM P ld (Op.unary op x):=by
 unfold Op.unary Op.intArith Op.intBits;dsimp only;repeat' (first|exact trivial|split)
def zOq(P:Program)(s:TypeId)(f:Nat):Bool:=
 match P.underlying s with
 | some (.struct fs)=>match fs[f]? with
  |some d=>match P.info? d.type with
   |some i=>i.size !=0
   |none=>true
  |none=>true
 |_=>true
theorem zN7{P:Program}(t:TypeId)(x:Value)(i:Nat)(h:zOq P t i=true):zCM P ld (Instr.fieldAt t x i):=by
 unfold zOq at h;show zCM P ld (Sem.program _);show zCM P ld (Sem.bind (match P.underlying t with|some d=>pure d|none=>stuck "no such type") _);cases g:P.underlying t with
 |none=>trivial
 | some d=>
  rw[g]at h;cases d with
  | struct b=>
   dsimp only at h;show zCM P ld (match (b[i]?:Option Field)with
    |some f=>do
     let a ← Instr.sureAddr x;let __do_lift ← fieldPlace a f;pure (Value.pointer (some __do_lift))
    |_=>stuck "fieldAddr: no such field")
   cases c:b[i]? with
   |none=>trivial
   |some f=>
    rw[c]at h;dsimp only at h;refine tb (zH8 _) fun a=>?_
    refine tb ?_ fun _=>trivial
    unfold fieldPlace sizeOf typeInfo;show zCM P ld (Sem.bind (Sem.bind (match P.info? f.type with|some i=>pure i|none=>stuck "no such type") _) _);cases e:P.info? f.type with
    |none=>trivial
    |some i=>
     rw[e]at h;show zCM P ld (if i.size=0 then _ else _);rw[if_neg (by simpa using h)];trivial
  |_=>trivial
theorem zOB{P:Program}{ld:Bool}{a b:Type}{f:a->Sem b}(h:∀x,zCM P ld (f x)):∀l:List a,zCM P ld (l.mapM f)
 | []=>by rw[List.mapM_nil];trivial
 |x::l=>by rw[List.mapM_cons];exact tb (h x) fun _=>tb (zOB h l) fun _=>trivial
theorem zSJ{P:Program}(t:TypeId)(a:Array (Nat × Value)):zCM P ld (Instr.build t a):=by
 unfold Instr.build;refine tb (zOE t) fun _=>tb (zCo t) fun _=>?_
 split
 .refine tb ?_ fun _=>?_
  .rw[Array.mapM_eq_mapM_toList]
   exact zQp (zOB (f:=fun f:Field=>do pure (f.offset,<-sizeOf f.type)) (fun _=>tb (zEP _) fun _=>trivial) _)
  split<;>trivial
 .refine tb (zEP _) fun _=>?_
  split<;>trivial
 trivial
def zOZ:Value->Value->Bool
 | .int _ _,.int _ _| .bool _,.bool _| .string _,.string _| .nilIface,.iface _ _| .iface _ _,.nilIface| .nilIface,.nilIface
 | .pointer none,.pointer _| .pointer _,.pointer none| .slice none _ _,.slice _ _ _| .slice _ _ _,.slice none _ _| .map none,.map _| .map _,.map none
 | .nilFunc,.nilFunc| .nilFunc,.func _ _ _| .func _ _ _,.nilFunc=>true
 |_,_=>false
def zYV:Value->Bool
 | .slice _ _ _| .string _| .map _=>true
 |_=>false
def zOP(P:Program)(ρ:Operand->Value)(o:Oper):Bool:=
 match o.op with
 | .move _| .assign _| .pick _ _ _| .load _ _| .unOp _ _ _| .field _ _ _| .indexAddr _ _ _| .index _ _ _| .slice _ _ _ _ _| .extract _ _| .makeInterface _ _| .makeFunc _ _ _| .typeAssert _ _ _ _| .build _ _=>true
 | .fieldAddr s _ f=>zOq P s f
 | .nilCheck x=>match ρ x with| .pointer (some _)=>true|_=>false
 | .binOp _ _ x y _=>zOZ (ρ x) (ρ y)
 | .convert s d x=>match P.underlying s,P.underlying d,ρ x with|some (.int _),some (.int _),.int _ _=>true|_,_,_=>false
 | .call c=>match c.callee with| .builtin .len=>zYV ((c.args.map ρ).getD 0 .nilIface)|_=>false
 |_=>false
theorem zIa{P:Program}{ld:Bool}{a b:Value}(h:zOZ a b=true):∀(d:Nat) (t:TypeId),zCM P ld (Op.equalIn d t a b)
 |0,_=>trivial
 |d+1,t=>by
  unfold Op.equalIn;refine tb (zCo t) fun e=>?_
  unfold zOZ at h;split at h<;>first|cases h|skip
  all_goals cases e<;>first|exact trivial|(cases ‹Option Addr›<;>exact trivial)|(cases ‹Option Nat›<;>exact trivial)|(refine show zCM P ld (if _ then _ else _) from ?_;split<;>trivial)
theorem zN8{P:Program}{ld:Bool}:∀(d:Nat) (t:TypeId),zCM P ld (Op.eqGuardIn d t .nilIface .nilIface)
 |0,_=>trivial
 |d+1,t=>by
  unfold Op.eqGuardIn;refine tb (zCo t) fun e=>?_
  cases e<;>trivial
theorem zSL{P:Program}{op:BinOp}{x y:Operand}{b:Value}(h:zOZ a b=true):zCM P ld (eqGuard op t x y a b):=by
 unfold zOZ at h;split at h<;>first|cases h|skip
 all_goals cases op<;>first|exact trivial|skip
 all_goals exact zMp trivial (zMp trivial (tb (zN8 _ _) fun q=>zMp trivial trivial))
theorem zSO{P:Program}{op:BinOp}{k yk:IntKind}:zCM P ld (Op.shift op k x yk y):=by
 unfold Op.shift;split;exact zEg _;cases op<;>trivial
theorem zSI{P:Program}{op:BinOp}{k:IntKind}:zCM P ld (Op.intArith op k x y):=by
 unfold Op.intArith;cases op<;>trivial
theorem zWq{P:Program}{op:BinOp}{k:IntKind}:zCM P ld (Op.intDiv op k x y):=by
 unfold Op.intDiv;split;exact zEg _;cases op<;>trivial
theorem zU7{P:Program}{op:BinOp}{k:IntKind}:zCM P ld (Op.intBits op k x y):=by
 unfold Op.intBits;cases op<;>trivial
theorem zWp{P:Program}{op:BinOp}:zCM P ld (Op.intCmp op x y):=by
 unfold Op.intCmp;cases op<;>trivial
theorem zWs{P:Program}{op:BinOp}{x y:ByteArray}:zCM P ld (Op.stringOp op x y):=by
 unfold Op.stringOp;cases op<;>first|trivial|(dsimp only;split<;>trivial)
theorem zWo{P:Program}{op:BinOp}{b:Value}(h:zOZ a b=true):zCM P ld (binOp op t a b):=by
 have i:∀n:Bool,zCM P ld (do pure (.bool (n !=(← Op.equal t a b))):Sem Value):=fun n=>tb (zIa (P:=P) (ld:=ld) h Op.maxDepth t) fun _=>trivial
 have l:=i false;have d:=tb (f:=fun q=>(pure (.bool (!q)):Sem Value)) (zIa (P:=P) (ld:=ld) h Op.maxDepth t) fun _=>trivial
 have e:=tb (f:=fun q=>(pure (.bool q):Sem Value)) (zIa (P:=P) (ld:=ld) h Op.maxDepth t) fun _=>trivial
 clear l i;unfold zOZ at h;split at h<;>first|cases h|skip
 .rename_i k x j y
  have c:∀s:Sem Value,zCM P ld s->zCM P ld (if k≠j then stuck "BinOp: operands of different kinds" else s):=fun s u=>by split<;>first|exact trivial|exact u
  have g:=zSO (P:=P) (ld:=ld) (op:=op) (k:=k) (yk:=j) (x:=x) (y:=y);have m:=c _ (zSI (P:=P) (ld:=ld) (op:=op) (k:=k) (x:=x) (y:=y));have o:=c _ (zWq (P:=P) (ld:=ld) (op:=op) (k:=k) (x:=x) (y:=y));have p:=c _ (zU7 (P:=P) (ld:=ld) (op:=op) (k:=k) (x:=x) (y:=y));have r:=c _ (zWp (P:=P) (ld:=ld) (op:=op) (x:=x) (y:=y));clear d e c;cases op<;>first|exact g|exact m|exact o|exact p|exact r
 cases op<;>first|exact trivial|exact d|exact e
 .rename_i x y
  have g:=zWs (P:=P) (ld:=ld) (op:=op) (x:=x) (y:=y);clear d e;cases op<;>exact g
 all_goals cases op<;>first|exact trivial|exact d|exact e|(cases ‹Option Addr›<;>exact trivial)
theorem zWr{P:Program}{ts:Array TypeId}{xs:Array Value}(h:zYV (xs.getD 0 .nilIface)=true):zCM P true (Builtin.len_ ts t xs):=by
 unfold Builtin.len_;rw[Array.getD_eq_getD_getElem?]at h;cases ts[0]? with
 |none=>trivial
 | some u=>
  cases a:xs[0]? with
  |none=>trivial
  |some x=>
   rw[a]at h;dsimp only[Option.getD_some]at h;refine tb (zCo _) fun d=>?_
   unfold zYV at h;split at h<;>first|cases h|skip
   all_goals cases d<;>first|exact trivial|exact tb (zCo _) fun e=>(by cases e<;>trivial)|skip
   cases ‹Option Nat›;trivial;exact tb (show zCM P true (getObj _) from⟨rfl,fun _=>trivial⟩) fun o=>(by cases o<;>trivial)
theorem zU8{P:Program}{s d:TypeId}{x:Value}{j k i:IntKind}{n:Int}(h1:P.underlying s=some (.int j))(h2:P.underlying d=some (.int k))(a:x= .int i n):zCM P ld (convert s d x):=by
 subst a;refine show zCM P ld (Sem.bind (match P.underlying s with|some d=>pure d|none=>stuck "no such type") _) from ?_
 rw[h1];refine show zCM P ld (Sem.bind (match P.underlying d with|some d=>pure d|none=>stuck "no such type") _) from ?_
 rw[h2];trivial
def zFp(o:Oper):Bool:=
 match o.op with
 | .load _ _| .call _=>true
 |_=>false
theorem zYv{P:Program}{ρ:Operand->Value}(h:zOP P ρ o=true):zCM P (zFp o) (execOp ρ o):=by
 have m:∀t a,o.op= .load t a->zFp o=true:=fun t a e=>by unfold zFp;rw[e]
 have l:∀c,o.op= .call c->zFp o=true:=fun c e=>by unfold zFp;rw[e]
 generalize zFp o=ld at*;unfold zOP at h;unfold execOp;dsimp only;split at h;rename_i e;rw[e];trivial;rename_i e;rw[e];trivial;rename_i c a b e;rw[e];exact tb (by unfold asBool;split<;>trivial) fun _=>trivial
 rename_i e;obtain rfl:=m _ _ e;rw[e];exact tb (tb (zH8 _) fun _=>zOA _ _) fun _=>trivial
 rename_i e;rw[e];exact tb (zSR _ _) fun _=>trivial
 rename_i e;rw[e];exact tb (zSK _ _ _) fun _=>trivial
 rename_i e;rw[e];exact tb (zN9 _ _ _) fun _=>trivial
 rename_i e;rw[e];exact tb (zSM _ _ _) fun _=>trivial
 rename_i e;rw[e];exact tb (zOD _ _ _ _ _) fun _=>trivial
 rename_i e;rw[e];exact tb (zN6 _ _) fun _=>trivial
 rename_i e;rw[e];exact tb (zSN _ _) fun _=>trivial
 rename_i e;rw[e];exact tb (s:=pure _) trivial fun _=>trivial
 rename_i e;rw[e];exact tb (zPm _ _ _ _) fun _=>trivial
 rename_i e;rw[e];exact tb (zSJ _ _) fun _=>trivial
 rename_i e;rw[e];exact tb (zN7 _ _ _ h) fun _=>trivial
 .rename_i x e
  rw[e];dsimp only;split at h;rename_i a j;rw[j];trivial;cases h
 rename_i e;rw[e];exact tb (tb (zSL h) fun _=>zWo h) fun _=>trivial
 .rename_i s d x e
  rw[e];dsimp only;split at h;rename_i f g i;exact tb (zU8 f g i) fun _=>trivial
  cases h
 .rename_i c e
  obtain rfl:=l _ e;rw[e];dsimp only;split at h
  .rename_i k
   unfold resolve;rw[k];refine show zCM P true (Sem.bind (Builtin.len_ c.argTypes o.type (c.args.map ρ)) fun a=>(Sem.pure (Next.value a))) from ?_
   exact tb (zWr h) fun _=>trivial
  cases h
 cases h
theorem zCT{P:Program}{c:Type}{s:Sem c}{f:c->Value}{x:Next}(h:(s>>=fun a=>pure (Next.value (f a)):Sem Next).run P W= .ok x W'):∃v,x= .value v:=by
 rw[Sem.run_bind]at h;cases b:s.run P W with
 |ok a w=>
  rw[b]at h;injection h with h _
  exact⟨_,h.symm⟩
 |halt _ _=>rw[b]at h;cases h
theorem qAA{P:Program}{ρ:Operand->Value}{x:Next}(h:zOP P ρ o=true)(d:(execOp ρ o).run P W= .ok x W'):∃v,x= .value v:=by
 unfold zOP at h;unfold execOp at d;dsimp only at d;split at h;rename_i e;rw[e]at d;injection d with d _;exact⟨_,d.symm⟩
 rename_i e;rw[e]at d;injection d with d _;exact⟨_,d.symm⟩
 rename_i c a b e;rw[e]at d;exact zCT (f:=fun q=>if q=true then ρ a else ρ b) d;rename_i e;rw[e]at d;exact zCT (f:=id) d;rename_i e;rw[e]at d;exact zCT (f:=id) d;rename_i e;rw[e]at d;exact zCT (f:=id) d;rename_i e;rw[e]at d;exact zCT (f:=id) d;rename_i e;rw[e]at d;exact zCT (f:=id) d;rename_i e;rw[e]at d;exact zCT (f:=id) d;rename_i e;rw[e]at d;exact zCT (f:=id) d;rename_i e;rw[e]at d;exact zCT (f:=id) d;rename_i e;rw[e]at d;exact zCT (f:=id) d;rename_i e;rw[e]at d;exact zCT (f:=id) d;rename_i e;rw[e]at d;exact zCT (f:=id) d;rename_i e;rw[e]at d;exact zCT (f:=id) d
 .rename_i x e
  rw[e]at d;dsimp only at d;split at h;rename_i a g;rw[g]at d;injection d with d _;exact⟨_,d.symm⟩
  cases h
 rename_i e;rw[e]at d;exact zCT (f:=id) d;rename_i e;rw[e]at d;exact zCT (f:=id) d
 .rename_i c e
  rw[e]at d;dsimp only at d;split at h
  .rename_i i
   unfold resolve at d;rw[i]at d;exact zCT (s:=Builtin.len_ c.argTypes o.type (c.args.map ρ)) (f:=id) d
  cases h
 cases h
abbrev MF:=Nat->Nat->Int
theorem zK6{a b:Int}(h:a=b):a∣b:=⟨1,by rw[h,Int.mul_one]⟩
def qS:Nat->(Nat->Int)->Int
 |0,_=>0
 |n+1,f=>qS n f+f n
theorem zL{g:Nat->Int}(h:∀i,i<n->f i=g i):qS n f=qS n g:=by
 induction n with
 |zero=>rfl
 |succ n a=>unfold qS;rw[a (fun i b=>h i (by omega)),h n (by omega)]
theorem zBt(h:∀i,i<n->f i=0):qS n f=0:=by
 induction n with
 |zero=>rfl
 |succ n a=>unfold qS;rw[a (fun i b=>h i (by omega)),h n (by omega)];rfl
theorem zBw(n:Nat)(f g:Nat->Int):qS n (fun i=>f i+g i)=qS n f+qS n g:=by
 induction n with
 |zero=>rfl
 |succ n a=>unfold qS;rw[a];dsimp only;omega
theorem jK(n:Nat)(k:Int)(f:Nat->Int):qS n (fun i=>k*f i)=k*qS n f:=by
 induction n with
 |zero=>unfold qS;rw[Int.mul_zero]
 |succ n a=>unfold qS;rw[a,Int.mul_add]
theorem zC9(n:Nat)(k:Int)(f:Nat->Int):qS n (fun i=>f i*k)=qS n f*k:=by
 rw[Int.mul_comm,<-jK];exact zL fun i _=>Int.mul_comm _ _
theorem zQm(n:Nat)(x y:Int)(f g:Nat->Int):qS n (fun i=>x*f i+y*g i)=x*qS n f+y*qS n g:=by
 rw[zBw,jK,jK]
theorem zLp(n:Nat)(f:Nat->Int):qS (n+1) f=f 0+qS n (fun i=>f (i+1)):=by
 induction n with
 |zero=>unfold qS qS;omega
 |succ n b=>
  have h:qS (n+1+1) f=qS (n+1) f+f (n+1):=rfl;have a:qS (n+1) (fun i=>f (i+1))=qS n (fun i=>f (i+1))+f (n+1):=rfl;rw[h,a,b];omega
theorem zBs(n m:Nat)(f:Nat->Nat->Int):qS n (fun i=>qS m (fun j=>f i j))=qS m (fun j=>qS n (fun i=>f i j)):=by
 induction n with
 |zero=>exact(zBt fun _ _=>rfl).symm
 |succ n a=>
  show qS n (fun i=>qS m (fun j=>f i j))+qS m (fun j=>f n j)=qS m (fun j=>qS n (fun i=>f i j)+f n j);rw[zBw,a]
theorem zBA(hc:c<n)(h:∀i,i<n->i≠c->f i=0):qS n f=f c:=by
 induction n with
 |zero=>omega
 | succ n d=>
  unfold qS;by_cases e:c=n
  .subst e
   rw[zBt (fun i a=>h i (by omega) (by omega))];omega
  rw[d (by omega) (fun i a b=>h i (by omega) b),h n (by omega) (by omega)];omega
theorem zWi(hc:c+1<n)(h:∀i,i<n->i≠c->i≠c+1->f i=0):qS n f=f c+f (c+1):=by
 induction n with
 |zero=>omega
 | succ n j=>
  unfold qS;by_cases e:c+1=n
  .subst e
   rw[zBA (c:=c) (by omega) (fun i d g=>h i (by omega) g (by omega))]
  rw[j (by omega) (fun i d a b=>h i (by omega) a b),h n (by omega) (by omega) (by omega)];omega
theorem zWg(h:∀i,i<n->g∣f i):g∣qS n f:=by
 induction n with
 |zero=>exact⟨0,by unfold qS;omega⟩
 |succ n a=>exact Int.dvd_add (a fun i b=>h i (by omega)) (h n (by omega))
theorem zE4{m:Nat}(e:n<=m)(h:∀i,n<=i->i<m->f i=0):qS m f=qS n f:=by
 induction m with
 |zero=>
  obtain rfl:n=0:=by omega
  rfl
 | succ m d=>
  rcases Nat.lt_or_ge n (m+1)with c|c
  .unfold qS
   rw[d (by omega) (fun i a b=>h i a (by omega)),h m (by omega) (by omega)];have:∀n,qS n f=qS n f:=fun _=>rfl
   cases n<;>simp[qS]
  obtain rfl:n=m+1:=by omega
  rfl
theorem zD9{B:Nat}(h:∀i,i<n->(f i).natAbs<=B):(qS n f).natAbs<=n*B:=by
 induction n with
 |zero=>simp[qS]
 |succ n a=>
  have b:=a fun i g=>h i (by omega)
  have c:=h n (by omega);have d:(qS n f+f n).natAbs<=(qS n f).natAbs+(f n).natAbs:=by omega
  have e:(n+1)*B=n*B+B:=Nat.succ_mul n B;unfold qS;omega
def sk(j b:Nat):Nat:=if b<j then b else b+1
theorem qAo(j b:Nat):sk j b≠j:=by unfold sk;split<;>omega
theorem zSD{b:Nat}(h:b<k):sk j b<k+1:=by unfold sk;split<;>omega
theorem zEp(b:Nat):sk 0 b=b+1:=by unfold sk;split<;>omega
theorem zZ5{a b:Nat}(h:sk j a=sk j b):a=b:=by
 unfold sk at h;split at h<;>split at h<;>omega
def mnr(F:Nat->Nat->Int)(i j:Nat):Nat->Nat->Int:=fun a b=>F (sk i a) (sk j b)
def sg1(j:Nat):Int:=if j%2=0 then 1 else-1
theorem zWe:sg1 0=1:=rfl
theorem zMm(j:Nat):sg1 (j+1)=-sg1 j:=by unfold sg1;split<;>split<;>omega
theorem zUl(j:Nat)(z:Int):(sg1 j*z).natAbs=z.natAbs:=by unfold sg1;split<;>omega
def det:Nat->(Nat->Nat->Int)->Int
 |0,_=>1
 |k+1,F=>qS (k+1) fun j=>sg1 j*(F 0 j*det k (mnr F 0 j))
theorem zC0(k:Nat)(F:Nat->Nat->Int):det (k+1) F=qS (k+1) fun j=>sg1 j*(F 0 j*det k (mnr F 0 j)):=rfl
theorem zAs:∀{F G:Nat->Nat->Int},(∀a,a<k->∀b,b<k->F a b=G a b)->det k F=det k G:=by
 induction k with
 |zero=>intros;rfl
 |succ k f=>
  intro F G h;rw[zC0,zC0];refine zL fun j e=>?_
  rw[h 0 (by omega) j e,f (F:=mnr F 0 j) (G:=mnr G 0 j) fun a c b d=>h _ (zSD c) _ (zSD d)]
def zDQ(F:Nat->Nat->Int)(c:Nat)(v:Nat->Int):Nat->Nat->Int:=fun a b=>if b=c then v a else F a b
def zKk(F:Nat->Nat->Int)(c:Nat)(v:Nat->Int):Nat->Nat->Int:=fun a b=>if a=c then v b else F a b
theorem zFj(F:Nat->Nat->Int)(i c:Nat)(v:Nat->Int):mnr (zDQ F c v) i c=mnr F i c:=by
 funext a b
 unfold mnr zDQ;rw[if_neg (qAo c b)]
theorem zMU{c':Nat}(h:sk j c=c'):mnr (zDQ F c' v) i j=zDQ (mnr F i j) c (fun a=>v (sk i a)):=by
 funext a b
 unfold mnr zDQ;by_cases e:b=c
 .rw[if_pos e,if_pos (by rw[e,h])]
 rw[if_neg e,if_neg (fun d=>e (zZ5 (d.trans h.symm)))]
theorem zZ6(h:c≠j):∃c',sk j c'=c/\(∀k,j<k+1->c<k+1->c'<k):=by
 by_cases a:c<j
 .exact⟨c,by unfold sk;rw[if_pos a],fun k _ _=>by omega⟩
 exact⟨c-1,by unfold sk;rw[if_neg (by omega)];omega,fun k _ _=>by omega⟩
theorem zJk:∀{F:Nat->Nat->Int} {c:Nat} {v w:Nat->Int} {x y:Int},c<k->
  det k (zDQ F c fun a=>x*v a+y*w a)=x*det k (zDQ F c v)+y*det k (zDQ F c w):=by
 induction k with
 |zero=>intro F c v w x y h;omega
 | succ k i=>
  intro F c v w x y f;rw[zC0,zC0,zC0,<-zQm];refine zL fun j g=>?_
  by_cases e:j=c
  .subst e
   rw[zFj,zFj,zFj];unfold zDQ;simp only[if_true];rw[Int.add_mul,Int.mul_add,Int.mul_assoc x,Int.mul_assoc y,Int.mul_left_comm (sg1 j) x,Int.mul_left_comm (sg1 j) y]
  obtain⟨l,b,d⟩:=zZ6 (j:=j) (c:=c) (fun h=>e h.symm);rw[zMU b,zMU b,zMU b,i (d k g f)];have:∀u:Nat->Int,zDQ F c u 0 j=F 0 j:=fun u=>by unfold zDQ;rw[if_neg e]
  rw[this,this,this,Int.mul_add,Int.mul_add,Int.mul_left_comm (F 0 j) x,Int.mul_left_comm (F 0 j) y,Int.mul_left_comm (sg1 j) x,Int.mul_left_comm (sg1 j) y]
theorem zH5(F:Nat->Nat->Int)(c:Nat):zDQ F c (fun a=>F a c)=F:=by
 funext a b
 unfold zDQ;split;rename_i h;rw[h];rfl
theorem zUk(F:Nat->Nat->Int)(c:Nat):zKk F c (F c)=F:=by
 funext a b
 unfold zKk;split;rename_i h;rw[h];rfl
theorem zFb:∀{F:Nat->Nat->Int} {c:Nat},c+1<k->(∀a,F a c=F a (c+1))->det k F=0:=by
 induction k with
 |zero=>intro F c h;omega
 | succ k l=>
  intro F c n h;rw[zC0,zWi (c:=c) n]
  .rw[zMm,h 0]
   have:mnr F 0 c=mnr F 0 (c+1):=by
    funext a b
    unfold mnr;by_cases e:b=c
    .rw[e]
     have g:sk c c=c+1:=by unfold sk;rw[if_neg (by omega)]
     have i:sk (c+1) c=c:=by unfold sk;rw[if_pos (by omega)]
     rw[g,i,h]
    have:sk c b=sk (c+1) b:=by unfold sk;split<;>split<;>omega
    rw[this]
   rw[this,Int.neg_mul];omega
  intro j o g i;have:det k (mnr F 0 j)=0:=by
   rcases Nat.lt_or_ge j c with m|m
   .refine l (c:=c-1) (by omega) fun a=>?_
    unfold mnr;have d:sk j (c-1)=c:=by unfold sk;rw[if_neg (by omega)];omega
    have f:sk j (c-1+1)=c+1:=by unfold sk;rw[if_neg (by omega)];omega
    rw[d,f,h]
   refine l (c:=c) (by omega) fun a=>?_
   unfold mnr;have d:sk j c=c:=by unfold sk;rw[if_pos (by omega)]
   have f:sk j (c+1)=c+1:=by unfold sk;rw[if_pos (by omega)]
   rw[d,f,h]
  rw[this,Int.mul_zero,Int.mul_zero]
theorem zG6{w:Nat->Int}(h:c<k):det k (zDQ F c fun a=>v a+w a)=det k (zDQ F c v)+det k (zDQ F c w):=by
 have:=zJk (F:=F) (v:=v) (w:=w) (x:=1) (y:=1) h;rw[Int.one_mul,Int.one_mul]at this;rw[<-this];congr 1
 funext a b
 unfold zDQ;split
 .show v a+w a=1*v a+1*w a
  rw[Int.one_mul,Int.one_mul]
 rfl
theorem zFS(F:Nat->Nat->Int)(c d:Nat)(v w:Nat->Int)(h:c≠d):zDQ (zDQ F c v) d w=zDQ (zDQ F d w) c v:=by
 funext a b
 unfold zDQ;by_cases e:b=d
 .rw[if_pos e,if_neg (by omega),if_pos e]
 rw[if_neg e];by_cases f:b=c
 .rw[if_pos f,if_pos f]
 rw[if_neg f,if_neg f,if_neg e]
theorem zIk(hc:c+1<k)(h:∀a b,G a b=F a (if b=c then c+1 else if b=c+1 then c else b)):det k G=-det k F:=by
 have m:∀v w:Nat->Int,det k (zDQ (zDQ F c v) (c+1) w)=-det k (zDQ (zDQ F c w) (c+1) v):=by
  intro v w;have g:det k (zDQ (zDQ F c fun a=>v a+w a) (c+1) fun a=>v a+w a)=0:=zFb hc fun a=>by
   unfold zDQ;rw[if_neg (by omega),if_pos rfl,if_pos rfl]
  have j:det k (zDQ (zDQ F c v) (c+1) v)=0:=zFb hc fun a=>by
   unfold zDQ;rw[if_neg (by omega),if_pos rfl,if_pos rfl]
  have l:det k (zDQ (zDQ F c w) (c+1) w)=0:=zFb hc fun a=>by
   unfold zDQ;rw[if_neg (by omega),if_pos rfl,if_pos rfl]
  rw[zG6 hc,zFS _ _ _ _ v (by omega),zFS _ _ _ _ w (by omega),zG6 (by omega),zG6 (by omega)]at g;rw[zFS _ _ _ _ v (by omega)]at j;rw[zFS _ _ _ _ w (by omega)]at l;rw[zFS F c (c+1) v w (by omega),zFS F c (c+1) w v (by omega)];omega
 have i:=m (fun a=>F a (c+1)) (fun a=>F a c);have d:zDQ (zDQ F c fun a=>F a (c+1)) (c+1) (fun a=>F a c)=G:=by
  funext a b
  rw[h];unfold zDQ;by_cases e:b=c
  .rw[if_neg (by omega),if_pos e,if_pos e]
  rw[if_neg e,if_neg e];split<;>rfl
 have f:zDQ (zDQ F c fun a=>F a c) (c+1) (fun a=>F a (c+1))=F:=by rw[zH5,zH5]
 rw[<-d,i,f]
theorem zFD(j:c<d)(hd:d<k)(h:∀a,F a c=F a d):det k F=0:=by
 obtain⟨n,e⟩:∃n,d=c+1+n:=⟨d-(c+1),by omega⟩;induction n generalizing F d with
 |zero=>subst e;exact zFb hd h
 | succ n f=>
  have g:=zIk (k:=k) (F:=F) (G:=fun a b=>F a (if b=d-1 then d-1+1 else if b=d-1+1 then d-1 else b)) (c:=d-1) (by omega) fun a b=>rfl
  have i:=f (F:=fun a b=>F a (if b=d-1 then d-1+1 else if b=d-1+1 then d-1 else b)) (d:=d-1) (by omega) (by omega) (fun a=>by
   rw[if_neg (by omega),if_neg (by omega),if_pos rfl,h];congr 1;omega) (by omega)
  omega
theorem zHY(k:Nat):∀F:Nat->Nat->Int,det (k+1) F=qS (k+1) fun i=>sg1 i*(F i 0*det k (mnr F i 0)):=by
 induction k with
 |zero=>intro F;rfl
 | succ k l=>
  intro F;rw[zC0,zLp,zLp _ (fun i=>sg1 i*(F i 0*det (k+1) (mnr F i 0)))];congr 1;have g:∀j,det (k+1) (mnr F 0 (j+1))=qS (k+1) fun i=>sg1 i*(F (i+1) 0*det k (fun a b=>F (sk i a+1) (sk j b+1))):=by
   intro j;rw[l];refine zL fun i e=>?_
   have c:mnr F 0 (j+1) i 0=F (i+1) 0:=by
    unfold mnr;rw[zEp];rfl
   have d:mnr (mnr F 0 (j+1)) i 0=fun a b=>F (sk i a+1) (sk j b+1):=by
    funext a b
    unfold mnr;rw[zEp,zEp];congr 1;unfold sk;split<;>split<;>omega
   rw[c,d]
  have h:∀i,det (k+1) (mnr F (i+1) 0)=qS (k+1) fun j=>sg1 j*(F 0 (j+1)*det k (fun a b=>F (sk i a+1) (sk j b+1))):=by
   intro i;rw[zC0];refine zL fun j f=>?_
   have c:mnr F (i+1) 0 0 j=F 0 (j+1):=by
    unfold mnr;rw[zEp];rfl
   have d:mnr (mnr F (i+1) 0) 0 j=fun a b=>F (sk i a+1) (sk j b+1):=by
    funext a b
    unfold mnr;rw[zEp,zEp];congr 1;unfold sk;split<;>split<;>omega
   rw[c,d]
  have m:qS (k+1) (fun j=>sg1 (j+1)*(F 0 (j+1)*det (k+1) (mnr F 0 (j+1))))=qS (k+1) fun j=>qS (k+1) fun i=>sg1 (j+1)*(F 0 (j+1)*(sg1 i*(F (i+1) 0*det k (fun a b=>F (sk i a+1) (sk j b+1))))):=by
   refine zL fun j f=>?_
   rw[g j,<-jK,<-jK]
  have n:qS (k+1) (fun i=>sg1 (i+1)*(F (i+1) 0*det (k+1) (mnr F (i+1) 0)))=qS (k+1) fun i=>qS (k+1) fun j=>sg1 (i+1)*(F (i+1) 0*(sg1 j*(F 0 (j+1)*det k (fun a b=>F (sk i a+1) (sk j b+1))))):=by
   refine zL fun i e=>?_
   rw[h i,<-jK,<-jK]
  rw[m,n,zBs];refine zL fun i e=>zL fun j f=>?_
  rw[zMm,zMm];generalize det k _=D;generalize F 0 (j+1)=P;generalize F (i+1) 0=Q;generalize sg1 i=s;generalize sg1 j=t;grind
def trp(F:Nat->Nat->Int):Nat->Nat->Int:=fun a b=>F b a
theorem zDG(k:Nat):∀F:Nat->Nat->Int,det k (trp F)=det k F:=by
 induction k with
 |zero=>intro F;rfl
 |succ k a=>
  intro F;rw[zC0,zHY];refine zL fun j b=>?_
  have:mnr (trp F) 0 j=trp (mnr F j 0):=rfl;rw[this,a];rfl
theorem zJl{F:Nat->Nat->Int}{v w:Nat->Int}{x y:Int}(h:c<k):
  det k (zKk F c fun a=>x*v a+y*w a)=x*det k (zKk F c v)+y*det k (zKk F c w):=by
 have e:∀u,trp (zKk F c u)=zDQ (trp F) c u:=fun u=>rfl
 rw[<-zDG,<-zDG k (zKk F c v),<-zDG k (zKk F c w),e,e,e];exact zJk h
theorem zCe(h:c<k)(d:∀b,b<k->F c b=0):det k F=0:=by
 have:=zJl (F:=F) (v:=F c) (w:=F c) (x:=0) (y:=0) h;rw[Int.zero_mul (det k _),Int.zero_add]at this;rw[<-this];refine zAs fun a g b f=>?_
 unfold zKk;split;rename_i e;rw[e,d b f];simp;rfl
theorem zIl(h:c<k)(d:∀a,a<k->F a c=0):det k F=0:=by
 rw[<-zDG];exact zCe h fun b e=>d b e
theorem zGR(a:c<d)(hd:d<k)(h:∀b,F c b=F d b):det k F=0:=by
 rw[<-zDG];exact zFD a hd h
theorem zNI(hc:c+1<k)(h:∀a b,G a b=F (if a=c then c+1 else if a=c+1 then c else a) b):det k G=-det k F:=by
 rw[<-zDG k G,<-zDG k F];exact zIk hc fun a b=>h b a
theorem zG8{R:Nat}{F:Nat->Nat->Int}{c:Nat->Int}{v:Nat->Nat->Int}(h:i<k):
  det k (zKk F i fun b=>qS R fun t=>c t*v t b)=qS R fun t=>c t*det k (zKk F i (v t)):=by
 induction R with
 |zero=>exact zCe h fun b d=>by unfold zKk;rw[if_pos rfl];rfl
 | succ R a=>
  show det k (zKk F i fun b=>qS R (fun t=>c t*v t b)+c R*v R b)=_;have e:(fun b=>qS R (fun t=>c t*v t b)+c R*v R b)=fun b=>1*(fun b=>qS R fun t=>c t*v t b) b+c R*v R b:=by
   funext b
   rw[Int.one_mul]
  rw[e,zJl h,a,Int.one_mul];rfl
theorem zC6{P:Nat->Nat->Int}(h:∀σ:Nat->Nat,(∀a,a<k->σ a<R)->g∣det k fun a b=>F (σ a) b):
  g∣det k fun a b=>qS R fun t=>P a t*F t b:=by
 have q:∀i,i<=k->∀σ:Nat->Nat,(∀a,a<k->σ a<R)->g∣det k fun a b=>if a<i then qS R fun t=>P a t*F t b else F (σ a) b:=by
  intro i;induction i with
  |zero=>
   intro _ σ f;have:=h σ f;simpa using this
  | succ i p=>
   intro r σ f;have e:(fun a b=>if a<i+1 then qS R fun t=>P a t*F t b else F (σ a) b)=zKk (fun a b=>if a<i then qS R fun t=>P a t*F t b else F (σ a) b) i fun b=>qS R fun t=>P i t*F t b:=by
    funext a b
    unfold zKk;by_cases e:a=i
    .rw[if_pos e,if_pos (by omega),e]
    rw[if_neg e];dsimp only;by_cases j:a<i
    .rw[if_pos j,if_pos (by omega)]
    rw[if_neg j,if_neg (by omega)]
   rw[e,zG8 (by omega)];refine zWg fun t o=>Int.dvd_trans ?_ (Int.dvd_mul_left _ _)
   have:=p (by omega) (fun a=>if a=i then t else σ a) fun a c=>by
    split;exact o;exact f a c
   have l:(fun a b=>if a<i then qS R fun t=>P a t*F t b else F ((fun a=>if a=i then t else σ a) a) b)=zKk (fun a b=>if a<i then qS R fun t=>P a t*F t b else F (σ a) b) i (F t):=by
    funext a b
    unfold zKk;dsimp only;by_cases e:a=i
    .rw[if_pos e,if_pos e,if_neg (by omega)]
    rw[if_neg e,if_neg e]
   rw[l]at this;exact this
 by_cases m:0<R
 .have:=q k (Nat.le_refl _) (fun _=>0) (fun _ _=>m)
  refine Int.dvd_trans this (zK6 (zAs fun a c b n=>?_));rw[if_pos c]
 obtain rfl:R=0:=by omega
 rcases Nat.eq_zero_or_pos k with d|d
 .subst d
  exact h (fun _=>0) (fun a c=>by omega)
 rw[zCe d fun b n=>rfl];exact Int.dvd_zero g
theorem zEw{Q:Nat->Nat->Int}(h:∀τ:Nat->Nat,(∀a,a<k->τ a<C)->g∣det k fun a b=>F a (τ b)):
  g∣det k fun a b=>qS C fun t=>F a t*Q t b:=by
 rw[<-zDG];have:=zC6 (k:=k) (R:=C) (F:=trp F) (P:=trp Q) (g:=g) fun σ c=>by
  rw[<-zDG];exact h σ c
 refine Int.dvd_trans this (zK6 (zAs fun a d b e=>?_));unfold trp;exact zL fun t f=>Int.mul_comm _ _
theorem zF6{P Q:Nat->Nat->Int}(h:∀σ τ:Nat->Nat,(∀a,a<k->σ a<R)->(∀a,a<k->τ a<C)->g∣det k fun a b=>F (σ a) (τ b)):
  g∣det k fun a b=>qS R fun s=>P a s*qS C fun t=>F s t*Q t b:=
 zC6 (F:=fun s b=>qS C fun t=>F s t*Q t b) fun σ c=>zEw (F:=fun a b=>F (σ a) b) fun τ d=>h σ τ c d
def Inc(k:Nat)(σ:Nat->Nat):Prop:=∀a,a+1<k->σ a<σ (a+1)
def wt:Nat->(Nat->Nat)->Nat
 |0,_=>0
 |n+1,σ=>wt n σ+n*σ n
theorem qAC(h:∀a,a<n->σ a<R):wt n σ<=n*(n*R):=by
 induction n with
 |zero=>simp[wt]
 |succ n b=>
  have c:=b fun a j=>h a (by omega)
  have d:=h n (by omega);unfold wt;have e:n*σ n<=n*R:=Nat.mul_le_mul_left _ (by omega);have f:n*(n*R)<=n*((n+1)*R):=Nat.mul_le_mul_left _ (Nat.mul_le_mul_right _ (by omega));have g:(n+1)*((n+1)*R)=n*((n+1)*R)+(n+1)*R:=Nat.succ_mul _ _;have i:(n+1)*R=n*R+R:=Nat.succ_mul _ _;omega
theorem zW9(h:∀a,a<n->σ a=τ a):wt n σ=wt n τ:=by
 induction n with
 |zero=>rfl
 |succ n b=>unfold wt;rw[b fun a c=>h a (by omega),h n (by omega)]
theorem zVL(hc:c+1<n)(h:∀a,τ a=σ (if a=c then c+1 else if a=c+1 then c else a))(j:σ (c+1)<σ c):wt n σ<wt n τ:=by
 obtain⟨m,rfl⟩:∃m,n=c+2+m:=⟨n-(c+2),by omega⟩;clear hc;induction m with
 |zero=>
  show wt c σ+c*σ c+(c+1)*σ (c+1)<wt c τ+c*τ c+(c+1)*τ (c+1);have b:wt c σ=wt c τ:=zW9 fun a i=>by rw[h,if_neg (by omega),if_neg (by omega)]
  have d:τ c=σ (c+1):=by rw[h,if_pos rfl]
  have e:τ (c+1)=σ c:=by rw[h,if_neg (by omega),if_pos rfl]
  rw[b,d,e];have f:(c+1)*σ (c+1)=c*σ (c+1)+σ (c+1):=Nat.succ_mul _ _;have g:(c+1)*σ c=c*σ c+σ c:=Nat.succ_mul _ _;omega
 |succ m k=>
  show wt (c+2+m) σ+(c+2+m)*σ (c+2+m)<wt (c+2+m) τ+(c+2+m)*τ (c+2+m);have b:τ (c+2+m)=σ (c+2+m):=by rw[h,if_neg (by omega),if_neg (by omega)]
  rw[b];omega
theorem zDe(h:∀σ:Nat->Nat,(∀a,a<k->σ a<R)->Inc k σ->g∣det k fun a b=>F (σ a) b):
  ∀σ:Nat->Nat,(∀a,a<k->σ a<R)->g∣det k fun a b=>F (σ a) b:=by
 have u:∀n,∀σ:Nat->Nat,(∀a,a<k->σ a<R)->k*(k*R)-wt k σ<=n->g∣det k fun a b=>F (σ a) b:=by
  intro n;induction n with
  | zero=>
   intro σ e r;by_cases j:∀a,a+1<k->σ a<σ (a+1)
   .exact h σ e j
   obtain⟨c,l⟩:=Classical.not_forall.1 j;obtain⟨f,p⟩:=Classical.not_imp.1 l;rcases Nat.lt_or_ge (σ (c+1)) (σ c)with i|i
   .have s:=zVL (n:=k) (σ:=σ) (τ:=fun a=>σ (if a=c then c+1 else if a=c+1 then c else a)) f (fun a=>rfl) i
    have q:=qAC (n:=k) (R:=R) (σ:=fun a=>σ (if a=c then c+1 else if a=c+1 then c else a)) fun a o=>e _ (by split;omega;split<;>omega)
    omega
   rw[zGR (c:=c) (d:=c+1) (by omega) f (fun b=>by
    have:σ c=σ (c+1):=by omega
    show F (σ c) b=F (σ (c+1)) b;rw[this])]
   exact Int.dvd_zero g
  | succ n t=>
   intro σ e r;by_cases j:∀a,a+1<k->σ a<σ (a+1)
   .exact h σ e j
   obtain⟨c,l⟩:=Classical.not_forall.1 j;obtain⟨f,p⟩:=Classical.not_imp.1 l;rcases Nat.lt_or_ge (σ (c+1)) (σ c)with i|i
   .have s:=zVL (n:=k) (σ:=σ) (τ:=fun a=>σ (if a=c then c+1 else if a=c+1 then c else a)) f (fun a=>rfl) i
    have m:∀a,a<k->σ (if a=c then c+1 else if a=c+1 then c else a)<R:=fun a o=>e _ (by split;omega;split<;>omega)
    have q:=qAC (n:=k) (R:=R) (σ:=fun a=>σ (if a=c then c+1 else if a=c+1 then c else a)) m;have:=t (fun a=>σ (if a=c then c+1 else if a=c+1 then c else a)) m (by omega);rw[zNI (F:=fun a b=>F (σ a) b) f (fun a b=>rfl)]at this;exact Int.dvd_neg.1 this
   rw[zGR (c:=c) (d:=c+1) (by omega) f (fun b=>by
    have:σ c=σ (c+1):=by omega
    show F (σ c) b=F (σ (c+1)) b;rw[this])]
   exact Int.dvd_zero g
 exact fun σ e=>u _ σ e (Nat.le_refl _)
theorem zNN(h:∀τ:Nat->Nat,(∀a,a<k->τ a<C)->Inc k τ->g∣det k fun a b=>F a (τ b)):
  ∀τ:Nat->Nat,(∀a,a<k->τ a<C)->g∣det k fun a b=>F a (τ b):=by
 intro τ e;rw[<-zDG];refine zDe (F:=trp F) (fun σ d c=>?_) τ e;rw[<-zDG];exact h σ d c
theorem zGA(h:∀σ τ:Nat->Nat,(∀a,a<k->σ a<R)->(∀a,a<k->τ a<C)->Inc k σ->Inc k τ->g∣det k fun a b=>F (σ a) (τ b)):
  ∀σ τ:Nat->Nat,(∀a,a<k->σ a<R)->(∀a,a<k->τ a<C)->g∣det k fun a b=>F (σ a) (τ b):=by
 intro σ τ c d;refine zDe (F:=fun a b=>F a (τ b)) (fun σ c e=>?_) σ c;exact zNN (F:=fun a b=>F (σ a) b) (fun τ d f=>h σ τ c d e f) τ d
theorem Inc.le(h:Inc k σ):∀a,a<k->a<=σ a:=by
 intro a;induction a with
 |zero=>intro _;omega
 |succ a c=>
  intro b;have d:=c (by omega);have e:=h a b;omega
theorem Inc.lt(h:Inc k σ):∀a b,a<b->b<k->σ a<σ b:=by
 intro a b g;induction b with
 |zero=>omega
 | succ b f=>
  intro e;have d:=h b e;rcases Nat.lt_or_ge a b with c|c
  .have:=f c (by omega)
   omega
  obtain rfl:a=b:=by omega
  exact d
def jB:Nat->(Nat->Int)->Int
 |0,_=>1
 |n+1,f=>jB n f*f n
theorem zKI{g:Nat->Int}(h:∀i,i<n->f i=g i):jB n f=jB n g:=by
 induction n with
 |zero=>rfl
 |succ n a=>unfold jB;rw[a (fun i b=>h i (by omega)),h n (by omega)]
theorem zPM(n:Nat)(f:Nat->Int):jB (n+1) f=f 0*jB n (fun i=>f (i+1)):=by
 induction n with
 |zero=>unfold jB jB;rw[Int.one_mul,Int.mul_one]
 |succ n b=>
  have h:jB (n+1+1) f=jB (n+1) f*f (n+1):=rfl;have a:jB (n+1) (fun i=>f (i+1))=jB n (fun i=>f (i+1))*f (n+1):=rfl;rw[h,a,b,Int.mul_assoc]
theorem zAT(h:∀i,i<n->0<f i):0<jB n f:=by
 induction n with
 |zero=>exact Int.one_pos
 |succ n a=>exact Int.mul_pos (a fun i b=>h i (by omega)) (h n (by omega))
theorem zHy{g:Nat->Int}(h:∀i,i<n->f i∣g i):jB n f∣jB n g:=by
 induction n with
 |zero=>exact Int.dvd_refl _
 |succ n a=>exact Int.mul_dvd_mul (a fun i b=>h i (by omega)) (h n (by omega))
theorem zLe(hc:c<n)(h:f c=0):jB n f=0:=by
 induction n with
 |zero=>omega
 |succ n a=>
  unfold jB;by_cases e:c=n
  .rw[<-e,h,Int.mul_zero]
  rw[a (by omega),Int.zero_mul]
theorem zEM:∀{F:Nat->Nat->Int},(∀a,a<k->∀b,b<k->a<b->F a b=0)->det k F=jB k fun i=>F i i:=by
 induction k with
 |zero=>intros;rfl
 | succ k e=>
  intro F h;rw[zC0,zBA (c:=0) (by omega),zWe,Int.one_mul,zPM,e];rfl
  .intro a f b l g
   unfold mnr;rw[zEp,zEp];exact h _ (by omega) _ (by omega) (by omega)
  intro j d m;rw[h 0 (by omega) j d (by omega),Int.zero_mul,Int.mul_zero]
theorem zF7(h:∀a,a<k->∀b,b<k->b<a->F a b=0):det k F=jB k fun i=>F i i:=by
 rw[<-zDG,zEM];rfl;intro a c b e d;exact h b e a c d
def zOp:Nat->Nat
 |0=>1
 |n+1=>(n+1)*zOp n
theorem zQ5{h:Nat}:∀{F:Nat->Nat->Int},(∀a,a<k->∀b,b<k->(F a b).natAbs<=h)->(det k F).natAbs<=zOp k*h^k:=by
 induction k with
 |zero=>intro F _;simp[det,zOp]
 | succ k f=>
  intro F hF;rw[zC0];refine Nat.le_trans (zD9 (B:=h*(zOp k*h^k)) fun j e=>?_) ?_
  .rw[zUl,Int.natAbs_mul]
   exact Nat.mul_le_mul (hF 0 (by omega) j e) (f fun a c b d=>hF _ (zSD c) _ (zSD d))
  show _<=(k+1)*zOp k*h^(k+1);rw[Nat.pow_succ];apply Nat.le_of_eq;rw[Nat.mul_left_comm h,Nat.mul_comm h,Nat.mul_assoc]
end Go.Proofs.YtkidaebmhlijlaaGreat
