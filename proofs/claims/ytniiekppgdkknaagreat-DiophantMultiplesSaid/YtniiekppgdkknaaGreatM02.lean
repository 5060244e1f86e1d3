/- Joined. -/
import Derived.StillTail
import Derived.Laws.AppendOwn
import Derived.KernelRfl
import Derived.RowKit
import Derived.Below
set_option linter.unusedVariables false
set_option linter.unusedSimpArgs false
set_option linter.unusedSectionVars false
set_option maxHeartbeats 16000000
set_option maxRecDepth 100000
variable{b ld:Bool}{g x y:Int}{R c d i j k n:Nat}{f v:Nat->Int}{σ τ:Nat->Nat}{F G:Nat->Nat->Int}{o:Go.Oper}{t u:Go.TypeId}{a:Go.Value}{W W' w:Go.World}
namespace Go.Proofs.YtniiekppgdkknaaGreat
open Go.RowKit
def zBc(P:Program){α:Type}(ld:Bool):Sem α->Prop
 | .pure _=>True
 | .load _ _ k=>ld=true/\∀v,zBc P ld (k v)
 | .new _ k=>∀r,zBc P ld (k r)
 | .getObj _ k=>ld=true/\∀o,zBc P ld (k o)
 | .choose _ k=>∀n,zBc P ld (k n)
 | .program k=>zBc P ld (k P)
 | .mark _ k=>zBc P ld k
 | .halt _=>True
 |_=>False
theorem zDP{P:Program}{ld:Bool}{c d:Type}{f:c->Sem d}:∀{s:Sem c},zBc P ld s->(∀a,zBc P ld (f a))->zBc P ld (s.bind f)
 | .pure _,_,h=>h _
 | .load _ _ k,h,b=>⟨h.1,fun v=>zDP (s:=k v) (h.2 v) b⟩
 | .new _ k,h,b=>fun r=>zDP (s:=k r) (h r) b
 | .getObj _ k,h,b=>⟨h.1,fun r=>zDP (s:=k r) (h.2 r) b⟩
 | .choose _ k,h,b=>fun r=>zDP (s:=k r) (h r) b
 | .program k,h,b=>zDP (s:=k P) h b
 | .mark _ k,h,b=>zDP (s:=k) h b
 | .halt _,_,_=>trivial
 | .store _ _ _ _,h,_=>h.elim
 | .shape _ _,h,_=>h.elim
 | .freeze _ _ _,h,_=>h.elim
 | .frozen _ _,h,_=>h.elim
 | .setObj _ _ _,h,_=>h.elim
 | .sys _ _,h,_=>h.elim
theorem zQm{P:Program}{a:Addr}{k:Addr}(h:w.heap[a.block]?=W.heap[a.block]?):w.seen P a u k b=W.seen P a u k b:=by
 unfold World.seen;rw[h]
theorem zQl{P:Program}{a:Addr}{k:Addr}{r}(h:W.seen P a u k b= .ok r):a.block<W.heap.size:=by
 refine Nat.lt_of_not_le fun c=>?_
 unfold World.seen at h;rw[Array.getElem?_eq_none c]at h;simp only[bind,Except.bind]at h;repeat' split at h
 all_goals first|cases h|contradiction
theorem zKF{P:Program}{c:Addr}{k:Addr}{r}(h:∀j,j<W.heap.size->w.heap[j]?=W.heap[j]?)(a:W.viewLoad P c u k b= .ok r):w.viewLoad P c u k b= .ok r:=by
 have f:c.block<W.heap.size:=by
  cases d:W.seen P c u k b with
  |ok x=>exact zQl d
  |error e=>
   unfold World.viewLoad at a;rw[d]at a;simp only[bind,Except.bind]at a;cases a
 unfold World.viewLoad at a ⊢
 rw[zQm (h _ f)];exact a
theorem zKj{P:Program}{a:Addr}{r}(h:∀j,j<W.heap.size->w.heap[j]?=W.heap[j]?)(c:W.farLoad P a b= .ok r):a.block<W.heap.size/\w.farLoad P a b= .ok r:=by
 have f:a.block<W.heap.size:=by
  refine Nat.lt_of_not_le fun i=>?_
  unfold World.farLoad at c;rw[Array.getElem?_eq_none i]at c;cases c
 refine⟨f,?_⟩;unfold World.farLoad at c ⊢
 rw[h _ f];split
 .rename_i e u d
  rw[d]at c;dsimp only at c;split at c
  .rename_i l k
   rw[zKF h k];exact c
  cases c
 rename_i d;split at c
 .rename_i e u g
  exact absurd g (d e u)
 cases c
theorem zDc{P:Program}{ld:Bool}{E:Type}{x:E}:∀{s:Sem E} {W W':World},zBc P ld s->s.run P W= .ok x W'->W.heap.size<=W'.heap.size/\W.drawn<=W'.drawn∧
  (W'.heap.size=W.heap.size->W'.drawn=W.drawn->W'=W/\∀w,(ld=true->∀j,j<W.heap.size->w.heap[j]?=W.heap[j]?)->s.run P w= .ok x w)
 | .pure a,W,W',_,h=>by
  simp only[Sem.run]at h;injection h with F G
  subst F G;exact⟨Nat.le_refl _,Nat.le_refl _,fun _ _=>⟨rfl,fun _ _=>rfl⟩⟩
 | .load m a k,W,W',b,h=>by
  simp only[Sem.run]at h;split at h
  .rename_i v B
   obtain⟨d,i,t⟩:=zDc (s:=k v) (b.2 v) h;refine⟨d,i,fun n p=>?_⟩;obtain⟨y,z⟩:=t n p;refine⟨y,fun w g=>?_⟩;have A:a.block<W.heap.size:=World.block_lt_of_cell? W _ B;have C:w.cell? a=some v:=(World.cell?_of_block (g b.1 _ A)).trans B;simp only[Sem.run,C];exact z w g
  rename_i B;split at h
  .rename_i v l H
   obtain⟨d,i,t⟩:=zDc (s:=k v) (b.2 v) h;refine⟨d,i,fun n p=>?_⟩;obtain⟨y,z⟩:=t n p;refine⟨y,fun w g=>?_⟩;obtain⟨A,I⟩:=zKj (g b.1) H;have C:w.cell? a=none:=(World.cell?_of_block (g b.1 _ A)).trans B;simp only[Sem.run,C,I];exact z w g
  cases h
 | .new o k,W,W',b,h=>by
  simp only[Sem.run]at h;obtain⟨d,i,-⟩:=zDc (s:=k _) (b _) h;simp only[Array.size_push]at d;exact⟨by omega,i,fun n _=>by omega⟩
 | .getObj r k,W,W',b,h=>by
  simp only[Sem.run]at h;split at h;cases h
  .rename_i o J D
   obtain⟨d,i,t⟩:=zDc (s:=k _) (b.2 _) h;refine⟨d,i,fun n p=>?_⟩;obtain⟨y,z⟩:=t n p;refine⟨y,fun w g=>?_⟩;have A:r<W.heap.size:=(Array.getElem?_eq_some_iff.1 D).1;simp only[Sem.run];rw[g b.1 _ A,D];split
   .rename_i c e f u
    injection u with u
    exact absurd u (J _ _ _)
   .rename_i L _ u
    injection u with u
    subst u;exact z w g
   rename_i u;cases u
  cases h
 | .choose q k,W,W',b,h=>by
  simp only[Sem.run]at h;split at h
  .rename_i K
   obtain⟨d,i,t⟩:=zDc (s:=k _) (b _) h;refine⟨d,i,fun n p=>?_⟩;obtain⟨y,z⟩:=t n p;refine⟨y,fun w g=>?_⟩;simp only[Sem.run,K,if_true];exact z w g
  obtain⟨d,i,-⟩:=zDc (s:=k _) (b _) h;simp only at d i;exact⟨d,by omega,fun _ p=>by omega⟩
 | .program k,W,W',b,h=>by
  simp only[Sem.run]at h;obtain⟨d,i,t⟩:=zDc (s:=k P) b h;exact⟨d,i,fun n p=>⟨(t n p).1,fun w g=>by simp only[Sem.run];exact(t n p).2 w g⟩⟩
 | .mark m k,W,W',b,h=>by
  simp only[Sem.run]at h;obtain⟨d,i,t⟩:=zDc (s:=k) b h;exact⟨d,i,fun n p=>⟨(t n p).1,fun w g=>by simp only[Sem.run];exact(t n p).2 w g⟩⟩
 | .halt _,_,_,_,h=>by simp only[Sem.run]at h;cases h
 | .store _ _ _ _,_,_,h,_=>h.elim
 | .shape _ _,_,_,h,_=>h.elim
 | .freeze _ _ _,_,_,h,_=>h.elim
 | .frozen _ _,_,_,h,_=>h.elim
 | .setObj _ _ _,_,_,h,_=>h.elim
 | .sys _ _,_,_,h,_=>h.elim
theorem zOp{P:Program}{a:Type}{x:a}{s:Sem a}(b:zBc P ld s)(h:s.run P W= .ok x W)(c:ld=true->∀j,j<W.heap.size->w.heap[j]?=W.heap[j]?):s.run P w= .ok x w:=
 ((zDc b h).2.2 rfl rfl).2 w c
theorem tb{P:Program}{b d:Type}{f:b->Sem d}{s:Sem b}(h:zBc P ld s)(c:∀a,zBc P ld (f a)):zBc P ld (s>>=f):=zDP h c
theorem zKE{P:Program}{a:Type}{c:Prop}[Decidable c]{s u:Sem a}(b:zBc P ld s)(d:zBc P ld u):zBc P ld (if c then s else u):=by split<;>assumption
theorem zIZ{P:Program}(t:TypeId):zBc P ld (typeInfo t):=by
 unfold typeInfo;refine tb (show zBc P ld program from trivial) fun p=>?_
 split<;>trivial
theorem zB2{P:Program}(t:TypeId):zBc P ld (underlying t):=by
 unfold underlying;refine tb (show zBc P ld program from trivial) fun p=>?_
 split<;>trivial
theorem zDQ{P:Program}(t:TypeId):zBc P ld (sizeOf t):=tb (zIZ t) fun _=>trivial
theorem zLW{P:Program}(t:TypeId):zBc P ld (zeroValue t):=tb (zIZ t) fun _=>by split<;>trivial
theorem zJQ{P:Program}(t:TypeId):zBc P ld (isAgg t):=tb (zB2 t) fun _=>by split<;>trivial
theorem zNj{P:Program}{b c:Type}{f:b->c}{s:Sem b}(h:zBc P ld s):zBc P ld (f<$>s):=zDP (f:=fun a=>pure (f a)) h fun _=>trivial
theorem zQ3{P:Program}(t:TypeId):zBc P ld (elemOf t):=tb (zB2 t) fun _=>by split<;>trivial
theorem zMy{P:Program}(t:TypeId)(v:Value):zBc P ld (newVar t v):=tb (show zBc P ld (newObj _) from fun _=>trivial) fun _=>trivial
theorem zDf{P:Program}{a:Type}(e:RuntimeError):zBc P ld (runtimePanic e:Sem a):=by
 unfold runtimePanic;refine tb (show zBc P ld program from trivial) fun p=>?_
 dsimp only;repeat' (first|exact trivial|split|refine tb (zQ3 _) fun _=>?_|refine tb (zMy _ _) fun _=>?_)
theorem zEo{P:Program}{a:Type}(k:IntKind)(x y:Int)(c:BoundsCode):zBc P ld (boundsPanic k x y c:Sem a):=by
 unfold boundsPanic;dsimp only;split;exact tb (zNj (show zBc P ld (choose _) from fun _=>trivial)) fun _=>zDf _
 exact tb (s:=pure _) trivial fun _=>zDf _
theorem zLU{P:Program}(t:TypeId)(cs:Array Value)(k:Nat):zBc P ld (part t cs k):=tb (zJQ t) fun _=>by
 split;exact tb (zDQ t) fun _=>trivial
 split<;>trivial
theorem zJP{P:Program}(a:Addr):∀(n i:Nat) (b:Array Value),zBc P true (loadCellsFrom a i n b)
 |0,_,_=>trivial
 |n+1,i,b=>tb (show zBc P true (load _) from⟨rfl,fun _=>trivial⟩) fun _=>zJP a n _ _
theorem zLS{P:Program}(t:TypeId)(a:Addr):zBc P true (loadVar t a):=tb (zJQ t) fun _=>by
 split;exact tb (zDQ t) fun _=>tb (zJP a _ _ _) fun _=>trivial
 exact⟨rfl,fun _=>trivial⟩
theorem zGX{P:Program}(v:Value):zBc P ld (Instr.sureAddr v):=by unfold Instr.sureAddr;split<;>trivial
theorem zKD{P:Program}(v:Value):zBc P ld (asIntOf v):=by unfold asIntOf;split<;>trivial
theorem zEO{P:Program}(x:Value)(y:Nat)(c:BoundsCode):zBc P ld (Instr.sliceBound x y c):=tb (zKD x) fun a=>by
 obtain⟨k,i⟩:=a;dsimp only;split;trivial;exact zEo _ _ _ _
theorem zHN{P:Program}(b:Bool)(n c:Nat)(l h m:Option Value):zBc P ld (Instr.sliceBounds b n c l h m):=by
 unfold Instr.sliceBounds;have a:∀(H M:Nat),zBc P ld (do
   let l ← match l with
    |some v=>Instr.sliceBound v H (if m.isSome then .slice3C else .sliceB)
    |none=>pure 0
   pure (l,H,M)):=fun H M=>by
  cases l;trivial;exact tb (zEO _ _ _) fun _=>trivial
 cases m<;>cases h
 exact a _ _;exact tb (s:=pure _) trivial fun _=>tb (zEO _ _ _) fun _=>a _ _
 exact tb (zEO _ _ _) fun _=>trivial
 exact tb (zEO _ _ _) fun _=>tb (zEO _ _ _) fun _=>a _ _
theorem zQ0{P:Program}(v:Value):zBc P ld (asAddr v):=by
 unfold asAddr;repeat' (first|exact trivial|exact zDf _|split)
theorem zOo{P:Program}(t:TypeId)(x:Value)(l h m:Option Value):zBc P ld (Instr.slice t x l h m):=by
 unfold Instr.slice;dsimp only;repeat' (first|exact trivial|refine tb (zB2 _) fun _=>?_|refine tb (zHN _ _ _ _ _ _) fun _=>?_|refine tb (zDQ _) fun _=>?_|refine tb (zQ0 _) fun _=>?_|refine tb (s:=stuck _) trivial fun _=>?_|split)
theorem zLV{P:Program}(t:TypeId)(x:Value)(l h m:Option Value):zBc P ld (Instr.sliceAt t x l h m):=by
 unfold Instr.sliceAt;dsimp only;repeat' (first|exact trivial|exact zOo _ _ _ _ _|refine tb (zB2 _) fun _=>?_|refine tb (zHN _ _ _ _ _ _) fun _=>?_|refine tb (zDQ _) fun _=>?_|refine tb (zGX _) fun _=>?_|split)
theorem zLR{P:Program}(t:TypeId)(x i:Value):zBc P ld (Instr.indexAt t x i):=by
 unfold Instr.indexAt;refine tb (zKD _) fun a=>?_
 obtain⟨k,n⟩:=a;have f:∀(r:Option Addr × Nat × TypeId),zBc P ld (match r with
   | (c,b,e)=>do
    let h:=decide (b<=1) && (match ← underlying t with| .array ..=>true|_=>false);match c with
    |some a=>
     if 0<=n/\n<b then pure (.pointer (some (a.add (n.toNat*(← sizeOf e)))))
     else if h then unsupported (.noEntry "op/indexAddr.an index out of range at an array of length 0 or 1 (ledger 616)")
     else boundsPanic k n b .index
    |none=>boundsPanic k n 0 .index:Sem Value):=fun r=>by
  obtain⟨c,b,e⟩:=r;refine tb (zB2 _) fun d=>?_
  cases c with
  |none=>exact zEo _ _ _ _
  | some a=>
   dsimp only;by_cases g:0<=n/\n<b
   .rw[if_pos g]
    exact tb (zDQ _) fun _=>trivial
   rw[if_neg g];refine show zBc P ld (if _ then _ else _) from ?_
   generalize (decide (b<=1) && _)=q;cases q;exact zEo _ _ _ _;trivial
 refine tb (zB2 _) fun d=>?_
 split;exact tb (zGX _) fun _=>tb (s:=pure _) trivial fun _=>f _
 exact tb (s:=pure _) trivial fun _=>f _
 trivial
theorem zOl{P:Program}(t:TypeId)(x i:Value):zBc P ld (Instr.index t x i):=by
 unfold Instr.index;repeat' (first|exact trivial|exact zEo _ _ _ _|exact zLU _ _ _|refine tb (zKD _) fun _=>?_|refine tb (zB2 _) fun _=>?_|refine tb (zDQ _) fun _=>?_|split)
theorem zSr{P:Program}(v:Value):zBc P ld (asAgg v):=by unfold asAgg;split<;>trivial
theorem zOj{P:Program}(t:TypeId)(x:Value)(i:Nat):zBc P ld (Instr.field t x i):=by
 unfold Instr.field;repeat' (first|exact trivial|exact zLU _ _ _|refine tb (zB2 _) fun _=>?_|refine tb (zSr _) fun _=>?_|split)
theorem zLO{P:Program}(x:Value)(i:Nat):zBc P ld (Instr.extract x i):=by
 unfold Instr.extract;repeat' (first|exact trivial|split)
theorem zOm{P:Program}(t:TypeId)(x:Value):zBc P ld (Instr.makeInterface t x):=by
 unfold Instr.makeInterface;repeat' (first|exact trivial|refine tb (zB2 _) fun _=>?_|split)
theorem zMx{P:Program}(x:Value)(t u:TypeId)(b:Bool):zBc P ld (Instr.typeAssert x t u b):=by
 unfold Instr.typeAssert;dsimp only;repeat' (first|exact trivial|exact zDf _|refine tb (zB2 _) fun _=>?_|refine tb (zIZ _) fun _=>?_|refine tb (zLW _) fun _=>?_|split)
theorem zOq{P:Program}(op:UnOp)(x:Value):zBc P ld (Op.unary op x):=by
 unfold Op.unary Op.intArith Op.intBits;dsimp only;repeat' (first|exact trivial|split)
def zMA(P:Program)(s:TypeId)(f:Nat):Bool:=
 match P.underlying s with
 | some (.struct fs)=>match fs[f]? with
  |some d=>match P.info? d.type with
   |some i=>i.size !=0
   |none=>true
  |none=>true
 |_=>true
theorem zLP{P:Program}(t:TypeId)(x:Value)(i:Nat)(h:zMA P t i=true):zBc P ld (Instr.fieldAt t x i):=by
 unfold zMA at h;show zBc P ld (Sem.program _);show zBc P ld (Sem.bind (match P.underlying t with|some d=>pure d|none=>stuck "no such type") _);cases g:P.underlying t with
 |none=>trivial
 | some d=>
  rw[g]at h;cases d with
  | struct b=>
   dsimp only at h;show zBc P ld (match (b[i]?:Option Field)with
    |some f=>do
     let a ← Instr.sureAddr x;let __do_lift ← fieldPlace a f;pure (Value.pointer (some __do_lift))
    |_=>stuck "fieldAddr: no such field")
   cases c:b[i]? with
   |none=>trivial
   |some f=>
    rw[c]at h;dsimp only at h;refine tb (zGX _) fun a=>?_
    refine tb ?_ fun _=>trivial
    unfold fieldPlace sizeOf typeInfo;show zBc P ld (Sem.bind (Sem.bind (match P.info? f.type with|some i=>pure i|none=>stuck "no such type") _) _);cases e:P.info? f.type with
    |none=>trivial
    |some i=>
     rw[e]at h;show zBc P ld (if i.size=0 then _ else _);rw[if_neg (by simpa using h)];trivial
  |_=>trivial
theorem zLT{P:Program}{ld:Bool}{a b:Type}{f:a->Sem b}(h:∀x,zBc P ld (f x)):∀l:List a,zBc P ld (l.mapM f)
 | []=>by rw[List.mapM_nil];trivial
 |x::l=>by rw[List.mapM_cons];exact tb (h x) fun _=>tb (zLT h l) fun _=>trivial
theorem zOi{P:Program}(t:TypeId)(a:Array (Nat × Value)):zBc P ld (Instr.build t a):=by
 unfold Instr.build;refine tb (zLW t) fun _=>tb (zB2 t) fun _=>?_
 split
 .refine tb ?_ fun _=>?_
  .rw[Array.mapM_eq_mapM_toList]
   exact zNj (zLT (f:=fun f:Field=>do pure (f.offset,<-sizeOf f.type)) (fun _=>tb (zDQ _) fun _=>trivial) _)
  split<;>trivial
 .refine tb (zDQ _) fun _=>?_
  split<;>trivial
 trivial
def zLv:Value->Value->Bool
 | .int _ _,.int _ _| .bool _,.bool _| .string _,.string _| .nilIface,.iface _ _| .iface _ _,.nilIface| .nilIface,.nilIface
 | .pointer none,.pointer _| .pointer _,.pointer none| .slice none _ _,.slice _ _ _| .slice _ _ _,.slice none _ _| .map none,.map _| .map _,.map none
 | .nilFunc,.nilFunc| .nilFunc,.func _ _ _| .func _ _ _,.nilFunc=>true
 |_,_=>false
def zUO:Value->Bool
 | .slice _ _ _| .string _| .map _=>true
 |_=>false
def zLo(P:Program)(ρ:Operand->Value)(o:Oper):Bool:=
 match o.op with
 | .move _| .assign _| .pick _ _ _| .load _ _| .unOp _ _ _| .field _ _ _| .indexAddr _ _ _| .index _ _ _| .slice _ _ _ _ _| .extract _ _| .makeInterface _ _| .makeFunc _ _ _| .typeAssert _ _ _ _| .build _ _=>true
 | .fieldAddr s _ f=>zMA P s f
 | .nilCheck x=>match ρ x with| .pointer (some _)=>true|_=>false
 | .binOp _ _ x y _=>zLv (ρ x) (ρ y)
 | .convert s d x=>match P.underlying s,P.underlying d,ρ x with|some (.int _),some (.int _),.int _ _=>true|_,_,_=>false
 | .call c=>match c.callee with| .builtin .len=>zUO ((c.args.map ρ).getD 0 .nilIface)|_=>false
 |_=>false
theorem zG4{P:Program}{ld:Bool}{a b:Value}(h:zLv a b=true):∀(d:Nat) (t:TypeId),zBc P ld (Op.equalIn d t a b)
 |0,_=>trivial
 |d+1,t=>by
  unfold Op.equalIn;refine tb (zB2 t) fun e=>?_
  unfold zLv at h;split at h<;>first|cases h|skip
  all_goals cases e<;>first|exact trivial|(cases ‹Option Addr›<;>exact trivial)|(cases ‹Option Nat›<;>exact trivial)|(refine show zBc P ld (if _ then _ else _) from ?_;split<;>trivial)
theorem zLQ{P:Program}{ld:Bool}:∀(d:Nat) (t:TypeId),zBc P ld (Op.eqGuardIn d t .nilIface .nilIface)
 |0,_=>trivial
 |d+1,t=>by
  unfold Op.eqGuardIn;refine tb (zB2 t) fun e=>?_
  cases e<;>trivial
theorem zOk{P:Program}{op:BinOp}{x y:Operand}{b:Value}(h:zLv a b=true):zBc P ld (eqGuard op t x y a b):=by
 unfold zLv at h;split at h<;>first|cases h|skip
 all_goals cases op<;>first|exact trivial|skip
 all_goals exact zKE trivial (zKE trivial (tb (zLQ _ _) fun q=>zKE trivial trivial))
theorem zOn{P:Program}{op:BinOp}{k yk:IntKind}:zBc P ld (Op.shift op k x yk y):=by
 unfold Op.shift;split;exact zDf _;cases op<;>trivial
theorem zOh{P:Program}{op:BinOp}{k:IntKind}:zBc P ld (Op.intArith op k x y):=by
 unfold Op.intArith;cases op<;>trivial
theorem zSu{P:Program}{op:BinOp}{k:IntKind}:zBc P ld (Op.intDiv op k x y):=by
 unfold Op.intDiv;split;exact zDf _;cases op<;>trivial
theorem zQ1{P:Program}{op:BinOp}{k:IntKind}:zBc P ld (Op.intBits op k x y):=by
 unfold Op.intBits;cases op<;>trivial
theorem zSt{P:Program}{op:BinOp}:zBc P ld (Op.intCmp op x y):=by
 unfold Op.intCmp;cases op<;>trivial
theorem zSw{P:Program}{op:BinOp}{x y:ByteArray}:zBc P ld (Op.stringOp op x y):=by
 unfold Op.stringOp;cases op<;>first|trivial|(dsimp only;split<;>trivial)
theorem zSs{P:Program}{op:BinOp}{b:Value}(h:zLv a b=true):zBc P ld (binOp op t a b):=by
 have i:∀n:Bool,zBc P ld (do pure (.bool (n !=(← Op.equal t a b))):Sem Value):=fun n=>tb (zG4 (P:=P) (ld:=ld) h Op.maxDepth t) fun _=>trivial
 have l:=i false;have d:=tb (f:=fun q=>(pure (.bool (!q)):Sem Value)) (zG4 (P:=P) (ld:=ld) h Op.maxDepth t) fun _=>trivial
 have e:=tb (f:=fun q=>(pure (.bool q):Sem Value)) (zG4 (P:=P) (ld:=ld) h Op.maxDepth t) fun _=>trivial
 clear l i;unfold zLv at h;split at h<;>first|cases h|skip
 .rename_i k x j y
  have c:∀s:Sem Value,zBc P ld s->zBc P ld (if k≠j then stuck "BinOp: operands of different kinds" else s):=fun s u=>by split<;>first|exact trivial|exact u
  have g:=zOn (P:=P) (ld:=ld) (op:=op) (k:=k) (yk:=j) (x:=x) (y:=y);have m:=c _ (zOh (P:=P) (ld:=ld) (op:=op) (k:=k) (x:=x) (y:=y));have o:=c _ (zSu (P:=P) (ld:=ld) (op:=op) (k:=k) (x:=x) (y:=y));have p:=c _ (zQ1 (P:=P) (ld:=ld) (op:=op) (k:=k) (x:=x) (y:=y));have r:=c _ (zSt (P:=P) (ld:=ld) (op:=op) (x:=x) (y:=y));clear d e c;cases op<;>first|exact g|exact m|exact o|exact p|exact r
 cases op<;>first|exact trivial|exact d|exact e
 .rename_i x y
  have g:=zSw (P:=P) (ld:=ld) (op:=op) (x:=x) (y:=y);clear d e;cases op<;>exact g
 all_goals cases op<;>first|exact trivial|exact d|exact e|(cases ‹Option Addr›<;>exact trivial)
theorem zSv{P:Program}{a:Array TypeId}{xs:Array Value}(h:zUO (xs.getD 0 .nilIface)=true):zBc P true (Builtin.len_ a t xs):=by
 unfold Builtin.len_;rw[Array.getD_eq_getD_getElem?]at h;cases a[0]? with
 |none=>trivial
 | some u=>
  cases b:xs[0]? with
  |none=>trivial
  |some x=>
   rw[b]at h;dsimp only[Option.getD_some]at h;refine tb (zB2 _) fun d=>?_
   unfold zUO at h;split at h<;>first|cases h|skip
   all_goals cases d<;>first|exact trivial|exact tb (zB2 _) fun e=>(by cases e<;>trivial)|skip
   cases ‹Option Nat›;trivial;exact tb (show zBc P true (getObj _) from⟨rfl,fun _=>trivial⟩) fun o=>(by cases o<;>trivial)
theorem zQ2{P:Program}{s d:TypeId}{x:Value}{j k i:IntKind}{n:Int}(a:P.underlying s=some (.int j))(b:P.underlying d=some (.int k))(c:x= .int i n):zBc P ld (convert s d x):=by
 subst c;refine show zBc P ld (Sem.bind (match P.underlying s with|some d=>pure d|none=>stuck "no such type") _) from ?_
 rw[a];refine show zBc P ld (Sem.bind (match P.underlying d with|some d=>pure d|none=>stuck "no such type") _) from ?_
 rw[b];trivial
def zEk(o:Oper):Bool:=
 match o.op with
 | .load _ _| .call _=>true
 |_=>false
theorem zUv{P:Program}{ρ:Operand->Value}(h:zLo P ρ o=true):zBc P (zEk o) (execOp ρ o):=by
 have m:∀t a,o.op= .load t a->zEk o=true:=fun t a e=>by unfold zEk;rw[e]
 have l:∀c,o.op= .call c->zEk o=true:=fun c e=>by unfold zEk;rw[e]
 generalize zEk o=ld at*;unfold zLo at h;unfold execOp;dsimp only;split at h;rename_i e;rw[e];trivial;rename_i e;rw[e];trivial;rename_i c a b e;rw[e];exact tb (by unfold asBool;split<;>trivial) fun _=>trivial
 rename_i e;obtain rfl:=m _ _ e;rw[e];exact tb (tb (zGX _) fun _=>zLS _ _) fun _=>trivial
 rename_i e;rw[e];exact tb (zOq _ _) fun _=>trivial
 rename_i e;rw[e];exact tb (zOj _ _ _) fun _=>trivial
 rename_i e;rw[e];exact tb (zLR _ _ _) fun _=>trivial
 rename_i e;rw[e];exact tb (zOl _ _ _) fun _=>trivial
 rename_i e;rw[e];exact tb (zLV _ _ _ _ _) fun _=>trivial
 rename_i e;rw[e];exact tb (zLO _ _) fun _=>trivial
 rename_i e;rw[e];exact tb (zOm _ _) fun _=>trivial
 rename_i e;rw[e];exact tb (s:=pure _) trivial fun _=>trivial
 rename_i e;rw[e];exact tb (zMx _ _ _ _) fun _=>trivial
 rename_i e;rw[e];exact tb (zOi _ _) fun _=>trivial
 rename_i e;rw[e];exact tb (zLP _ _ _ h) fun _=>trivial
 .rename_i x e
  rw[e];dsimp only;split at h;rename_i a j;rw[j];trivial;cases h
 rename_i e;rw[e];exact tb (tb (zOk h) fun _=>zSs h) fun _=>trivial
 .rename_i s d x e
  rw[e];dsimp only;split at h;rename_i f g i;exact tb (zQ2 f g i) fun _=>trivial
  cases h
 .rename_i c e
  obtain rfl:=l _ e;rw[e];dsimp only;split at h
  .rename_i k
   unfold resolve;rw[k];refine show zBc P true (Sem.bind (Builtin.len_ c.argTypes o.type (c.args.map ρ)) fun a=>(Sem.pure (Next.value a))) from ?_
   exact tb (zSv h) fun _=>trivial
  cases h
 cases h
theorem zBi{P:Program}{c:Type}{s:Sem c}{f:c->Value}{x:Next}(h:(s>>=fun a=>pure (Next.value (f a)):Sem Next).run P W= .ok x W'):∃v,x= .value v:=by
 rw[Sem.run_bind]at h;cases b:s.run P W with
 |ok a w=>
  rw[b]at h;injection h with h _
  exact⟨_,h.symm⟩
 |halt _ _=>rw[b]at h;cases h
theorem zV1{P:Program}{ρ:Operand->Value}{x:Next}(h:zLo P ρ o=true)(d:(execOp ρ o).run P W= .ok x W'):∃v,x= .value v:=by
 unfold zLo at h;unfold execOp at d;dsimp only at d;split at h;rename_i e;rw[e]at d;injection d with d _;exact⟨_,d.symm⟩
 rename_i e;rw[e]at d;injection d with d _;exact⟨_,d.symm⟩
 rename_i c a b e;rw[e]at d;exact zBi (f:=fun q=>if q=true then ρ a else ρ b) d;rename_i e;rw[e]at d;exact zBi (f:=id) d;rename_i e;rw[e]at d;exact zBi (f:=id) d;rename_i e;rw[e]at d;exact zBi (f:=id) d;rename_i e;rw[e]at d;exact zBi (f:=id) d;rename_i e;rw[e]at d;exact zBi (f:=id) d;rename_i e;rw[e]at d;exact zBi (f:=id) d;rename_i e;rw[e]at d;exact zBi (f:=id) d;rename_i e;rw[e]at d;exact zBi (f:=id) d;rename_i e;rw[e]at d;exact zBi (f:=id) d;rename_i e;rw[e]at d;exact zBi (f:=id) d;rename_i e;rw[e]at d;exact zBi (f:=id) d;rename_i e;rw[e]at d;exact zBi (f:=id) d
 .rename_i x e
  rw[e]at d;dsimp only at d;split at h;rename_i a g;rw[g]at d;injection d with d _;exact⟨_,d.symm⟩
  cases h
 rename_i e;rw[e]at d;exact zBi (f:=id) d;rename_i e;rw[e]at d;exact zBi (f:=id) d
 .rename_i c e
  rw[e]at d;dsimp only at d;split at h
  .rename_i i
   unfold resolve at d;rw[i]at d;exact zBi (s:=Builtin.len_ c.argTypes o.type (c.args.map ρ)) (f:=id) d
  cases h
 cases h
abbrev MF:=Nat->Nat->Int
theorem zN2{a b:Int}(h:a=b):a∣b:=⟨1,by rw[h,Int.mul_one]⟩
def yZ:Nat->(Nat->Int)->Int
 |0,_=>0
 |n+1,f=>yZ n f+f n
theorem yF{g:Nat->Int}(h:∀i,i<n->f i=g i):yZ n f=yZ n g:=by
 induction n with
 |zero=>rfl
 |succ n a=>unfold yZ;rw[a (fun i b=>h i (by omega)),h n (by omega)]
theorem zFE(h:∀i,i<n->f i=0):yZ n f=0:=by
 induction n with
 |zero=>rfl
 |succ n a=>unfold yZ;rw[a (fun i b=>h i (by omega)),h n (by omega)];rfl
theorem zC4(n:Nat)(f g:Nat->Int):yZ n (fun i=>f i+g i)=yZ n f+yZ n g:=by
 induction n with
 |zero=>rfl
 |succ n a=>unfold yZ;rw[a];dsimp only;omega
theorem zBA(n:Nat)(k:Int)(f:Nat->Int):yZ n (fun i=>k*f i)=k*yZ n f:=by
 induction n with
 |zero=>unfold yZ;rw[Int.mul_zero]
 |succ n a=>unfold yZ;rw[a,Int.mul_add]
theorem zQy(n:Nat)(k:Int)(f:Nat->Int):yZ n (fun i=>f i*k)=yZ n f*k:=by
 rw[Int.mul_comm,<-zBA];exact yF fun i _=>Int.mul_comm _ _
theorem zSp(n:Nat)(x y:Int)(f g:Nat->Int):yZ n (fun i=>x*f i+y*g i)=x*yZ n f+y*yZ n g:=by
 rw[zC4,zBA,zBA]
theorem zJN(n:Nat)(f:Nat->Int):yZ (n+1) f=f 0+yZ n (fun i=>f (i+1)):=by
 induction n with
 |zero=>unfold yZ yZ;omega
 |succ n b=>
  have h:yZ (n+1+1) f=yZ (n+1) f+f (n+1):=rfl;have a:yZ (n+1) (fun i=>f (i+1))=yZ n (fun i=>f (i+1))+f (n+1):=rfl;rw[h,a,b];omega
theorem zGW(n m:Nat)(f:Nat->Nat->Int):yZ n (fun i=>yZ m (fun j=>f i j))=yZ m (fun j=>yZ n (fun i=>f i j)):=by
 induction n with
 |zero=>exact(zFE fun _ _=>rfl).symm
 |succ n a=>
  show yZ n (fun i=>yZ m (fun j=>f i j))+yZ m (fun j=>f n j)=yZ m (fun j=>yZ n (fun i=>f i j)+f n j);rw[zC4,a]
theorem zCF(hc:c<n)(h:∀i,i<n->i≠c->f i=0):yZ n f=f c:=by
 induction n with
 |zero=>omega
 | succ n d=>
  unfold yZ;by_cases e:c=n
  .subst e
   rw[zFE (fun i a=>h i (by omega) (by omega))];omega
  rw[d (by omega) (fun i a b=>h i (by omega) b),h n (by omega) (by omega)];omega
theorem zSq(hc:c+1<n)(h:∀i,i<n->i≠c->i≠c+1->f i=0):yZ n f=f c+f (c+1):=by
 induction n with
 |zero=>omega
 | succ n j=>
  unfold yZ;by_cases e:c+1=n
  .subst e
   rw[zCF (c:=c) (by omega) (fun i d g=>h i (by omega) g (by omega))]
  rw[j (by omega) (fun i d a b=>h i (by omega) a b),h n (by omega) (by omega) (by omega)];omega
theorem zSo(h:∀i,i<n->g∣f i):g∣yZ n f:=by
 induction n with
 |zero=>exact⟨0,by unfold yZ;omega⟩
 |succ n a=>exact Int.dvd_add (a fun i b=>h i (by omega)) (h n (by omega))
theorem zHi{m:Nat}(e:n<=m)(h:∀i,n<=i->i<m->f i=0):yZ m f=yZ n f:=by
 induction m with
 |zero=>
  obtain rfl:n=0:=by omega
  rfl
 | succ m d=>
  rcases Nat.lt_or_ge n (m+1)with c|c
  .unfold yZ
   rw[d (by omega) (fun i a b=>h i a (by omega)),h m (by omega) (by omega)];have:∀n,yZ n f=yZ n f:=fun _=>rfl
   cases n<;>simp[yZ]
  obtain rfl:n=m+1:=by omega
  rfl
theorem zMw{B:Nat}(h:∀i,i<n->(f i).natAbs<=B):(yZ n f).natAbs<=n*B:=by
 induction n with
 |zero=>simp[yZ]
 |succ n a=>
  have b:=a fun i g=>h i (by omega)
  have c:=h n (by omega);have d:(yZ n f+f n).natAbs<=(yZ n f).natAbs+(f n).natAbs:=by omega
  have e:(n+1)*B=n*B+B:=Nat.succ_mul n B;unfold yZ;omega
def sk(j b:Nat):Nat:=if b<j then b else b+1
theorem zVx(j b:Nat):sk j b≠j:=by unfold sk;split<;>omega
theorem zMs{b:Nat}(h:b<k):sk j b<k+1:=by unfold sk;split<;>omega
theorem zFD(b:Nat):sk 0 b=b+1:=by unfold sk;split<;>omega
theorem zVw{a b:Nat}(h:sk j a=sk j b):a=b:=by
 unfold sk at h;split at h<;>split at h<;>omega
def mnr(F:Nat->Nat->Int)(i j:Nat):Nat->Nat->Int:=fun a b=>F (sk i a) (sk j b)
def sg1(j:Nat):Int:=if j%2=0 then 1 else-1
theorem zSl:sg1 0=1:=rfl
theorem zKB(j:Nat):sg1 (j+1)=-sg1 j:=by unfold sg1;split<;>split<;>omega
theorem zUo(j:Nat)(z:Int):(sg1 j*z).natAbs=z.natAbs:=by unfold sg1;split<;>omega
def det:Nat->(Nat->Nat->Int)->Int
 |0,_=>1
 |k+1,F=>yZ (k+1) fun j=>sg1 j*(F 0 j*det k (mnr F 0 j))
theorem zCv(k:Nat)(F:Nat->Nat->Int):det (k+1) F=yZ (k+1) fun j=>sg1 j*(F 0 j*det k (mnr F 0 j)):=rfl
theorem zCu:∀{F G:Nat->Nat->Int},(∀a,a<k->∀b,b<k->F a b=G a b)->det k F=det k G:=by
 induction k with
 |zero=>intros;rfl
 |succ k f=>
  intro F G h;rw[zCv,zCv];refine yF fun j e=>?_
  rw[h 0 (by omega) j e,f (F:=mnr F 0 j) (G:=mnr G 0 j) fun a c b d=>h _ (zMs c) _ (zMs d)]
def zDS(F:Nat->Nat->Int)(c:Nat)(v:Nat->Int):Nat->Nat->Int:=fun a b=>if b=c then v a else F a b
def zEs(F:Nat->Nat->Int)(c:Nat)(v:Nat->Int):Nat->Nat->Int:=fun a b=>if a=c then v b else F a b
theorem zEf(F:Nat->Nat->Int)(i c:Nat)(v:Nat->Int):mnr (zDS F c v) i c=mnr F i c:=by
 funext a b
 unfold mnr zDS;rw[if_neg (zVx c b)]
theorem zJ4{c':Nat}(h:sk j c=c'):mnr (zDS F c' v) i j=zDS (mnr F i j) c (fun a=>v (sk i a)):=by
 funext a b
 unfold mnr zDS;by_cases e:b=c
 .rw[if_pos e,if_pos (by rw[e,h])]
 rw[if_neg e,if_neg (fun d=>e (zVw (d.trans h.symm)))]
theorem zVy(h:c≠j):∃c',sk j c'=c/\(∀k,j<k+1->c<k+1->c'<k):=by
 by_cases a:c<j
 .exact⟨c,by unfold sk;rw[if_pos a],fun k _ _=>by omega⟩
 exact⟨c-1,by unfold sk;rw[if_neg (by omega)];omega,fun k _ _=>by omega⟩
theorem zHx:∀{F:Nat->Nat->Int} {c:Nat} {v w:Nat->Int} {x y:Int},c<k->
  det k (zDS F c fun a=>x*v a+y*w a)=x*det k (zDS F c v)+y*det k (zDS F c w):=by
 induction k with
 |zero=>intro F c v w x y h;omega
 | succ k i=>
  intro F c v w x y f;rw[zCv,zCv,zCv,<-zSp];refine yF fun j g=>?_
  by_cases e:j=c
  .subst e
   rw[zEf,zEf,zEf];unfold zDS;simp only[if_true];rw[Int.add_mul,Int.mul_add,Int.mul_assoc x,Int.mul_assoc y,Int.mul_left_comm (sg1 j) x,Int.mul_left_comm (sg1 j) y]
  obtain⟨l,b,d⟩:=zVy (j:=j) (c:=c) (fun h=>e h.symm);rw[zJ4 b,zJ4 b,zJ4 b,i (d k g f)];have:∀u:Nat->Int,zDS F c u 0 j=F 0 j:=fun u=>by unfold zDS;rw[if_neg e]
  rw[this,this,this,Int.mul_add,Int.mul_add,Int.mul_left_comm (F 0 j) x,Int.mul_left_comm (F 0 j) y,Int.mul_left_comm (sg1 j) x,Int.mul_left_comm (sg1 j) y]
theorem zIW(F:Nat->Nat->Int)(c:Nat):zDS F c (fun a=>F a c)=F:=by
 funext a b
 unfold zDS;split;rename_i h;rw[h];rfl
theorem zLD(F:Nat->Nat->Int)(c:Nat):zEs F c (F c)=F:=by
 funext a b
 unfold zEs;split;rename_i h;rw[h];rfl
theorem zEY:∀{F:Nat->Nat->Int} {c:Nat},c+1<k->(∀a,F a c=F a (c+1))->det k F=0:=by
 induction k with
 |zero=>intro F c h;omega
 | succ k l=>
  intro F c n h;rw[zCv,zSq (c:=c) n]
  .rw[zKB,h 0]
   have:mnr F 0 c=mnr F 0 (c+1):=by
    funext a b
    unfold mnr;by_cases e:b=c
    .rw[e]
     have g:sk c c=c+1:=by unfold sk;rw[if_neg (by omega)]
     have i:sk (c+1) c=c:=by unfold sk;rw[if_pos (by omega)]
     rw[g,i,h]
    have:sk c b=sk (c+1) b:=by unfold sk;split<;>split<;>omega
    rw[this]
   rw[this,Int.neg_mul];omega
  intro j o g i;have:det k (mnr F 0 j)=0:=by
   rcases Nat.lt_or_ge j c with m|m
   .refine l (c:=c-1) (by omega) fun a=>?_
    unfold mnr;have d:sk j (c-1)=c:=by unfold sk;rw[if_neg (by omega)];omega
    have f:sk j (c-1+1)=c+1:=by unfold sk;rw[if_neg (by omega)];omega
    rw[d,f,h]
   refine l (c:=c) (by omega) fun a=>?_
   unfold mnr;have d:sk j c=c:=by unfold sk;rw[if_pos (by omega)]
   have f:sk j (c+1)=c+1:=by unfold sk;rw[if_pos (by omega)]
   rw[d,f,h]
  rw[this,Int.mul_zero,Int.mul_zero]
theorem zFs{w:Nat->Int}(h:c<k):det k (zDS F c fun a=>v a+w a)=det k (zDS F c v)+det k (zDS F c w):=by
 have:=zHx (F:=F) (v:=v) (w:=w) (x:=1) (y:=1) h;rw[Int.one_mul,Int.one_mul]at this;rw[<-this];congr 1
 funext a b
 unfold zDS;split
 .show v a+w a=1*v a+1*w a
  rw[Int.one_mul,Int.one_mul]
 rfl
theorem zEM(F:Nat->Nat->Int)(c d:Nat)(v w:Nat->Int)(h:c≠d):zDS (zDS F c v) d w=zDS (zDS F d w) c v:=by
 funext a b
 unfold zDS;by_cases e:b=d
 .rw[if_pos e,if_neg (by omega),if_pos e]
 rw[if_neg e];by_cases f:b=c
 .rw[if_pos f,if_pos f]
 rw[if_neg f,if_neg f,if_neg e]
theorem zHF(hc:c+1<k)(h:∀a b,G a b=F a (if b=c then c+1 else if b=c+1 then c else b)):det k G=-det k F:=by
 have m:∀v w:Nat->Int,det k (zDS (zDS F c v) (c+1) w)=-det k (zDS (zDS F c w) (c+1) v):=by
  intro v w;have g:det k (zDS (zDS F c fun a=>v a+w a) (c+1) fun a=>v a+w a)=0:=zEY hc fun a=>by
   unfold zDS;rw[if_neg (by omega),if_pos rfl,if_pos rfl]
  have j:det k (zDS (zDS F c v) (c+1) v)=0:=zEY hc fun a=>by
   unfold zDS;rw[if_neg (by omega),if_pos rfl,if_pos rfl]
  have l:det k (zDS (zDS F c w) (c+1) w)=0:=zEY hc fun a=>by
   unfold zDS;rw[if_neg (by omega),if_pos rfl,if_pos rfl]
  rw[zFs hc,zEM _ _ _ _ v (by omega),zEM _ _ _ _ w (by omega),zFs (by omega),zFs (by omega)]at g;rw[zEM _ _ _ _ v (by omega)]at j;rw[zEM _ _ _ _ w (by omega)]at l;rw[zEM F c (c+1) v w (by omega),zEM F c (c+1) w v (by omega)];omega
 have i:=m (fun a=>F a (c+1)) (fun a=>F a c);have d:zDS (zDS F c fun a=>F a (c+1)) (c+1) (fun a=>F a c)=G:=by
  funext a b
  rw[h];unfold zDS;by_cases e:b=c
  .rw[if_neg (by omega),if_pos e,if_pos e]
  rw[if_neg e,if_neg e];split<;>rfl
 have f:zDS (zDS F c fun a=>F a c) (c+1) (fun a=>F a (c+1))=F:=by rw[zIW,zIW]
 rw[<-d,i,f]
theorem zGk(j:c<d)(hd:d<k)(h:∀a,F a c=F a d):det k F=0:=by
 obtain⟨n,e⟩:∃n,d=c+1+n:=⟨d-(c+1),by omega⟩;induction n generalizing F d with
 |zero=>subst e;exact zEY hd h
 | succ n f=>
  have g:=zHF (k:=k) (F:=F) (G:=fun a b=>F a (if b=d-1 then d-1+1 else if b=d-1+1 then d-1 else b)) (c:=d-1) (by omega) fun a b=>rfl
  have i:=f (F:=fun a b=>F a (if b=d-1 then d-1+1 else if b=d-1+1 then d-1 else b)) (d:=d-1) (by omega) (by omega) (fun a=>by
   rw[if_neg (by omega),if_neg (by omega),if_pos rfl,h];congr 1;omega) (by omega)
  omega
theorem zJh(k:Nat):∀F:Nat->Nat->Int,det (k+1) F=yZ (k+1) fun i=>sg1 i*(F i 0*det k (mnr F i 0)):=by
 induction k with
 |zero=>intro F;rfl
 | succ k l=>
  intro F;rw[zCv,zJN,zJN _ (fun i=>sg1 i*(F i 0*det (k+1) (mnr F i 0)))];congr 1;have g:∀j,det (k+1) (mnr F 0 (j+1))=yZ (k+1) fun i=>sg1 i*(F (i+1) 0*det k (fun a b=>F (sk i a+1) (sk j b+1))):=by
   intro j;rw[l];refine yF fun i e=>?_
   have c:mnr F 0 (j+1) i 0=F (i+1) 0:=by
    unfold mnr;rw[zFD];rfl
   have d:mnr (mnr F 0 (j+1)) i 0=fun a b=>F (sk i a+1) (sk j b+1):=by
    funext a b
    unfold mnr;rw[zFD,zFD];congr 1;unfold sk;split<;>split<;>omega
   rw[c,d]
  have h:∀i,det (k+1) (mnr F (i+1) 0)=yZ (k+1) fun j=>sg1 j*(F 0 (j+1)*det k (fun a b=>F (sk i a+1) (sk j b+1))):=by
   intro i;rw[zCv];refine yF fun j f=>?_
   have c:mnr F (i+1) 0 0 j=F 0 (j+1):=by
    unfold mnr;rw[zFD];rfl
   have d:mnr (mnr F (i+1) 0) 0 j=fun a b=>F (sk i a+1) (sk j b+1):=by
    funext a b
    unfold mnr;rw[zFD,zFD];congr 1;unfold sk;split<;>split<;>omega
   rw[c,d]
  have m:yZ (k+1) (fun j=>sg1 (j+1)*(F 0 (j+1)*det (k+1) (mnr F 0 (j+1))))=yZ (k+1) fun j=>yZ (k+1) fun i=>sg1 (j+1)*(F 0 (j+1)*(sg1 i*(F (i+1) 0*det k (fun a b=>F (sk i a+1) (sk j b+1))))):=by
   refine yF fun j f=>?_
   rw[g j,<-zBA,<-zBA]
  have n:yZ (k+1) (fun i=>sg1 (i+1)*(F (i+1) 0*det (k+1) (mnr F (i+1) 0)))=yZ (k+1) fun i=>yZ (k+1) fun j=>sg1 (i+1)*(F (i+1) 0*(sg1 j*(F 0 (j+1)*det k (fun a b=>F (sk i a+1) (sk j b+1))))):=by
   refine yF fun i e=>?_
   rw[h i,<-zBA,<-zBA]
  rw[m,n,zGW];refine yF fun i e=>yF fun j f=>?_
  rw[zKB,zKB];generalize det k _=D;generalize F 0 (j+1)=P;generalize F (i+1) 0=Q;generalize sg1 i=s;generalize sg1 j=t;grind
def trp(F:Nat->Nat->Int):Nat->Nat->Int:=fun a b=>F b a
theorem zD1(k:Nat):∀F:Nat->Nat->Int,det k (trp F)=det k F:=by
 induction k with
 |zero=>intro F;rfl
 |succ k a=>
  intro F;rw[zCv,zJh];refine yF fun j b=>?_
  have:mnr (trp F) 0 j=trp (mnr F j 0):=rfl;rw[this,a];rfl
theorem zEZ{F:Nat->Nat->Int}{v w:Nat->Int}{x y:Int}(h:c<k):
  det k (zEs F c fun a=>x*v a+y*w a)=x*det k (zEs F c v)+y*det k (zEs F c w):=by
 have e:∀u,trp (zEs F c u)=zDS (trp F) c u:=fun u=>rfl
 rw[<-zD1,<-zD1 k (zEs F c v),<-zD1 k (zEs F c w),e,e,e];exact zHx h
theorem zDo(h:c<k)(d:∀b,b<k->F c b=0):det k F=0:=by
 have:=zEZ (F:=F) (v:=F c) (w:=F c) (x:=0) (y:=0) h;rw[Int.zero_mul (det k _),Int.zero_add]at this;rw[<-this];refine zCu fun a g b f=>?_
 unfold zEs;split;rename_i e;rw[e,d b f];simp;rfl
theorem zFI(a:c<d)(hd:d<k)(h:∀b,F c b=F d b):det k F=0:=by
 rw[<-zD1];exact zGk a hd h
theorem zKd(hc:c+1<k)(h:∀a b,G a b=F (if a=c then c+1 else if a=c+1 then c else a) b):det k G=-det k F:=by
 rw[<-zD1 k G,<-zD1 k F];exact zHF hc fun a b=>h b a
theorem zFt{R:Nat}{F:Nat->Nat->Int}{c:Nat->Int}{v:Nat->Nat->Int}(h:i<k):
  det k (zEs F i fun b=>yZ R fun t=>c t*v t b)=yZ R fun t=>c t*det k (zEs F i (v t)):=by
 induction R with
 |zero=>exact zDo h fun b d=>by unfold zEs;rw[if_pos rfl];rfl
 | succ R a=>
  show det k (zEs F i fun b=>yZ R (fun t=>c t*v t b)+c R*v R b)=_;have e:(fun b=>yZ R (fun t=>c t*v t b)+c R*v R b)=fun b=>1*(fun b=>yZ R fun t=>c t*v t b) b+c R*v R b:=by
   funext b
   rw[Int.one_mul]
  rw[e,zEZ h,a,Int.one_mul];rfl
theorem zEx{P:Nat->Nat->Int}(h:∀σ:Nat->Nat,(∀a,a<k->σ a<R)->g∣det k fun a b=>F (σ a) b):
  g∣det k fun a b=>yZ R fun t=>P a t*F t b:=by
 have q:∀i,i<=k->∀σ:Nat->Nat,(∀a,a<k->σ a<R)->g∣det k fun a b=>if a<i then yZ R fun t=>P a t*F t b else F (σ a) b:=by
  intro i;induction i with
  |zero=>
   intro _ σ f;have:=h σ f;simpa using this
  | succ i p=>
   intro r σ f;have e:(fun a b=>if a<i+1 then yZ R fun t=>P a t*F t b else F (σ a) b)=zEs (fun a b=>if a<i then yZ R fun t=>P a t*F t b else F (σ a) b) i fun b=>yZ R fun t=>P i t*F t b:=by
    funext a b
    unfold zEs;by_cases e:a=i
    .rw[if_pos e,if_pos (by omega),e]
    rw[if_neg e];dsimp only;by_cases j:a<i
    .rw[if_pos j,if_pos (by omega)]
    rw[if_neg j,if_neg (by omega)]
   rw[e,zFt (by omega)];refine zSo fun t o=>Int.dvd_trans ?_ (Int.dvd_mul_left _ _)
   have:=p (by omega) (fun a=>if a=i then t else σ a) fun a c=>by
    split;exact o;exact f a c
   have l:(fun a b=>if a<i then yZ R fun t=>P a t*F t b else F ((fun a=>if a=i then t else σ a) a) b)=zEs (fun a b=>if a<i then yZ R fun t=>P a t*F t b else F (σ a) b) i (F t):=by
    funext a b
    unfold zEs;dsimp only;by_cases e:a=i
    .rw[if_pos e,if_pos e,if_neg (by omega)]
    rw[if_neg e,if_neg e]
   rw[l]at this;exact this
 by_cases m:0<R
 .have:=q k (Nat.le_refl _) (fun _=>0) (fun _ _=>m)
  refine Int.dvd_trans this (zN2 (zCu fun a c b n=>?_));rw[if_pos c]
 obtain rfl:R=0:=by omega
 rcases Nat.eq_zero_or_pos k with d|d
 .subst d
  exact h (fun _=>0) (fun a c=>by omega)
 rw[zDo d fun b n=>rfl];exact Int.dvd_zero g
def Inc(k:Nat)(σ:Nat->Nat):Prop:=∀a,a+1<k->σ a<σ (a+1)
def wt:Nat->(Nat->Nat)->Nat
 |0,_=>0
 |n+1,σ=>wt n σ+n*σ n
theorem zV3(h:∀a,a<n->σ a<R):wt n σ<=n*(n*R):=by
 induction n with
 |zero=>simp[wt]
 |succ n b=>
  have c:=b fun a j=>h a (by omega)
  have d:=h n (by omega);unfold wt;have e:n*σ n<=n*R:=Nat.mul_le_mul_left _ (by omega);have f:n*(n*R)<=n*((n+1)*R):=Nat.mul_le_mul_left _ (Nat.mul_le_mul_right _ (by omega));have g:(n+1)*((n+1)*R)=n*((n+1)*R)+(n+1)*R:=Nat.succ_mul _ _;have i:(n+1)*R=n*R+R:=Nat.succ_mul _ _;omega
theorem zTA(h:∀a,a<n->σ a=τ a):wt n σ=wt n τ:=by
 induction n with
 |zero=>rfl
 |succ n b=>unfold wt;rw[b fun a c=>h a (by omega),h n (by omega)]
theorem zRH(hc:c+1<n)(h:∀a,τ a=σ (if a=c then c+1 else if a=c+1 then c else a))(j:σ (c+1)<σ c):wt n σ<wt n τ:=by
 obtain⟨m,rfl⟩:∃m,n=c+2+m:=⟨n-(c+2),by omega⟩;clear hc;induction m with
 |zero=>
  show wt c σ+c*σ c+(c+1)*σ (c+1)<wt c τ+c*τ c+(c+1)*τ (c+1);have b:wt c σ=wt c τ:=zTA fun a i=>by rw[h,if_neg (by omega),if_neg (by omega)]
  have d:τ c=σ (c+1):=by rw[h,if_pos rfl]
  have e:τ (c+1)=σ c:=by rw[h,if_neg (by omega),if_pos rfl]
  rw[b,d,e];have f:(c+1)*σ (c+1)=c*σ (c+1)+σ (c+1):=Nat.succ_mul _ _;have g:(c+1)*σ c=c*σ c+σ c:=Nat.succ_mul _ _;omega
 |succ m k=>
  show wt (c+2+m) σ+(c+2+m)*σ (c+2+m)<wt (c+2+m) τ+(c+2+m)*τ (c+2+m);have b:τ (c+2+m)=σ (c+2+m):=by rw[h,if_neg (by omega),if_neg (by omega)]
  rw[b];omega
theorem zHG(h:∀σ:Nat->Nat,(∀a,a<k->σ a<R)->Inc k σ->g∣det k fun a b=>F (σ a) b):
  ∀σ:Nat->Nat,(∀a,a<k->σ a<R)->g∣det k fun a b=>F (σ a) b:=by
 have u:∀n,∀σ:Nat->Nat,(∀a,a<k->σ a<R)->k*(k*R)-wt k σ<=n->g∣det k fun a b=>F (σ a) b:=by
  intro n;induction n with
  | zero=>
   intro σ e r;by_cases j:∀a,a+1<k->σ a<σ (a+1)
   .exact h σ e j
   obtain⟨c,l⟩:=Classical.not_forall.1 j;obtain⟨f,p⟩:=Classical.not_imp.1 l;rcases Nat.lt_or_ge (σ (c+1)) (σ c)with i|i
   .have s:=zRH (n:=k) (σ:=σ) (τ:=fun a=>σ (if a=c then c+1 else if a=c+1 then c else a)) f (fun a=>rfl) i
    have q:=zV3 (n:=k) (R:=R) (σ:=fun a=>σ (if a=c then c+1 else if a=c+1 then c else a)) fun a o=>e _ (by split;omega;split<;>omega)
    omega
   rw[zFI (c:=c) (d:=c+1) (by omega) f (fun b=>by
    have:σ c=σ (c+1):=by omega
    show F (σ c) b=F (σ (c+1)) b;rw[this])]
   exact Int.dvd_zero g
  | succ n t=>
   intro σ e r;by_cases j:∀a,a+1<k->σ a<σ (a+1)
   .exact h σ e j
   obtain⟨c,l⟩:=Classical.not_forall.1 j;obtain⟨f,p⟩:=Classical.not_imp.1 l;rcases Nat.lt_or_ge (σ (c+1)) (σ c)with i|i
   .have s:=zRH (n:=k) (σ:=σ) (τ:=fun a=>σ (if a=c then c+1 else if a=c+1 then c else a)) f (fun a=>rfl) i
    have m:∀a,a<k->σ (if a=c then c+1 else if a=c+1 then c else a)<R:=fun a o=>e _ (by split;omega;split<;>omega)
    have q:=zV3 (n:=k) (R:=R) (σ:=fun a=>σ (if a=c then c+1 else if a=c+1 then c else a)) m;have:=t (fun a=>σ (if a=c then c+1 else if a=c+1 then c else a)) m (by omega);rw[zKd (F:=fun a b=>F (σ a) b) f (fun a b=>rfl)]at this;exact Int.dvd_neg.1 this
   rw[zFI (c:=c) (d:=c+1) (by omega) f (fun b=>by
    have:σ c=σ (c+1):=by omega
    show F (σ c) b=F (σ (c+1)) b;rw[this])]
   exact Int.dvd_zero g
 exact fun σ e=>u _ σ e (Nat.le_refl _)
theorem Inc.le(h:Inc k σ):∀a,a<k->a<=σ a:=by
 intro a;induction a with
 |zero=>intro _;omega
 |succ a c=>
  intro b;have d:=c (by omega);have e:=h a b;omega
def zBd:Nat->(Nat->Int)->Int
 |0,_=>1
 |n+1,f=>zBd n f*f n
theorem zMV(n:Nat)(f:Nat->Int):zBd (n+1) f=f 0*zBd n (fun i=>f (i+1)):=by
 induction n with
 |zero=>unfold zBd zBd;rw[Int.one_mul,Int.mul_one]
 |succ n b=>
  have h:zBd (n+1+1) f=zBd (n+1) f*f (n+1):=rfl;have a:zBd (n+1) (fun i=>f (i+1))=zBd n (fun i=>f (i+1))*f (n+1):=rfl;rw[h,a,b,Int.mul_assoc]
theorem zC1(h:∀i,i<n->0<f i):0<zBd n f:=by
 induction n with
 |zero=>exact Int.one_pos
 |succ n a=>exact Int.mul_pos (a fun i b=>h i (by omega)) (h n (by omega))
theorem zKx{g:Nat->Int}(h:∀i,i<n->f i∣g i):zBd n f∣zBd n g:=by
 induction n with
 |zero=>exact Int.dvd_refl _
 |succ n a=>exact Int.mul_dvd_mul (a fun i b=>h i (by omega)) (h n (by omega))
theorem zGD:∀{F:Nat->Nat->Int},(∀a,a<k->∀b,b<k->a<b->F a b=0)->det k F=zBd k fun i=>F i i:=by
 induction k with
 |zero=>intros;rfl
 | succ k e=>
  intro F h;rw[zCv,zCF (c:=0) (by omega),zSl,Int.one_mul,zMV,e];rfl
  .intro a f b l g
   unfold mnr;rw[zFD,zFD];exact h _ (by omega) _ (by omega) (by omega)
  intro j d m;rw[h 0 (by omega) j d (by omega),Int.zero_mul,Int.mul_zero]
theorem zHy(h:∀a,a<k->∀b,b<k->b<a->F a b=0):det k F=zBd k fun i=>F i i:=by
 rw[<-zD1,zGD];rfl;intro a c b e d;exact h b e a c d
def zL9:Nat->Nat
 |0=>1
 |n+1=>(n+1)*zL9 n
theorem zNx{h:Nat}:∀{F:Nat->Nat->Int},(∀a,a<k->∀b,b<k->(F a b).natAbs<=h)->(det k F).natAbs<=zL9 k*h^k:=by
 induction k with
 |zero=>intro F _;simp[det,zL9]
 | succ k f=>
  intro F hF;rw[zCv];refine Nat.le_trans (zMw (B:=h*(zL9 k*h^k)) fun j e=>?_) ?_
  .rw[zUo,Int.natAbs_mul]
   exact Nat.mul_le_mul (hF 0 (by omega) j e) (f fun a c b d=>hF _ (zMs c) _ (zMs d))
  show _<=(k+1)*zL9 k*h^(k+1);rw[Nat.pow_succ];apply Nat.le_of_eq;rw[Nat.mul_left_comm h,Nat.mul_comm h,Nat.mul_assoc]
end Go.Proofs.YtniiekppgdkknaaGreat
