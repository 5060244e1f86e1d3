/- Operations that only read: what they yield in a world they yield in every later one. Sums and determinants (Laplace along the first row) of integer matrices as functions. Plain Lean. -/
import Derived.StillTail
import Derived.Laws.AppendOwn
import Derived.KernelRfl
import Derived.RowKit
import Derived.Below
set_option linter.unusedVariables false
set_option linter.unusedSimpArgs false
set_option linter.unusedSectionVars false
namespace Go.Proofs.YtjdemlfceaikgaaGreat
open Go.RowKit
def Tame (P : Program) {α : Type} (ld : Bool) : Sem α->Prop
 | .pure _=>True
 | .load _ _ k=>ld = true/\∀v,Tame P ld (k v)
 | .new _ k=>∀r,Tame P ld (k r)
 | .getObj _ k=>ld = true/\∀o,Tame P ld (k o)
 | .choose _ k=>∀n,Tame P ld (k n)
 | .program k=>Tame P ld (k P)
 | .mark _ k=>Tame P ld k
 | .halt _=>True
 | _=>False
theorem tame_bind {P : Program} {ld : Bool} {α β : Type} {f : α->Sem β} : ∀{s : Sem α},Tame P ld s->(∀a,Tame P ld (f a))->Tame P ld (s.bind f)
 | .pure _,_,h=>h _
 | .load _ _ k,h,hf=>⟨h.1,fun v=>tame_bind (s:=k v) (h.2 v) hf⟩
 | .new _ k,h,hf=>fun r=>tame_bind (s:=k r) (h r) hf
 | .getObj _ k,h,hf=>⟨h.1,fun r=>tame_bind (s:=k r) (h.2 r) hf⟩
 | .choose _ k,h,hf=>fun r=>tame_bind (s:=k r) (h r) hf
 | .program k,h,hf=>tame_bind (s:=k P) h hf
 | .mark _ k,h,hf=>tame_bind (s:=k) h hf
 | .halt _,_,_=>trivial
 | .store _ _ _ _,h,_=>h.elim
 | .shape _ _,h,_=>h.elim
 | .freeze _ _ _,h,_=>h.elim
 | .frozen _ _,h,_=>h.elim
 | .setObj _ _ _,h,_=>h.elim
 | .sys _ _,h,_=>h.elim
theorem seen_same {P : Program} {W w : World} {at_ : Addr} {u : TypeId} {k : Addr} {b : Bool} (h : w.heap[at_.block]? = W.heap[at_.block]?) : w.seen P at_ u k b = W.seen P at_ u k b:=by
 unfold World.seen
 rw [h]
theorem seen_none {P : Program} {W : World} {at_ : Addr} {u : TypeId} {k : Addr} {b : Bool} {r} (h : W.seen P at_ u k b = .ok r) : at_.block < W.heap.size:=by
 refine Nat.lt_of_not_le fun hn=>?_
 unfold World.seen at h
 rw [Array.getElem?_eq_none hn] at h
 simp only [bind,Except.bind] at h
 repeat' split at h
 all_goals first | cases h | contradiction
theorem viewLoad_same {P : Program} {W w : World} {at_ : Addr} {u : TypeId} {k : Addr} {b : Bool} {r} (h : ∀j,j < W.heap.size->w.heap[j]? = W.heap[j]?) (h1 : W.viewLoad P at_ u k b = .ok r) : w.viewLoad P at_ u k b = .ok r:=by
 have hlt : at_.block < W.heap.size:=by
  cases hs : W.seen P at_ u k b with
  | ok x=>exact seen_none hs
  | error e=>
   unfold World.viewLoad at h1
   rw [hs] at h1
   simp only [bind,Except.bind] at h1
   cases h1
 unfold World.viewLoad at h1 ⊢
 rw [seen_same (h _ hlt)]
 exact h1
theorem farLoad_same {P : Program} {W w : World} {a : Addr} {b : Bool} {r} (h : ∀j,j < W.heap.size->w.heap[j]? = W.heap[j]?) (h1 : W.farLoad P a b = .ok r) : a.block < W.heap.size/\w.farLoad P a b = .ok r:=by
 have hlt : a.block < W.heap.size:=by
  refine Nat.lt_of_not_le fun hn=>?_
  unfold World.farLoad at h1
  rw [Array.getElem?_eq_none hn] at h1
  cases h1
 refine ⟨hlt,?_⟩
 unfold World.farLoad at h1 ⊢
 rw [h _ hlt]
 split
 ·rename_i at_ u hb
  rw [hb] at h1
  dsimp only at h1
  split at h1
  ·rename_i r' hr
   rw [viewLoad_same h hr]
   exact h1
  ·cases h1
 ·rename_i hb
  split at h1
  ·rename_i at_ u hb'
   exact absurd hb' (hb at_ u)
  ·cases h1
theorem tame_run {P : Program} {ld : Bool} {α : Type} {x : α} : ∀{s : Sem α} {W W' : World},Tame P ld s->s.run P W = .ok x W'->W.heap.size<=W'.heap.size/\W.drawn<=W'.drawn ∧
  (W'.heap.size = W.heap.size->W'.drawn = W.drawn->W' = W/\∀w,(ld = true->∀j,j < W.heap.size->w.heap[j]? = W.heap[j]?)->s.run P w = .ok x w)
 | .pure a,W,W',_,h=>by
  simp only [Sem.run] at h
  injection h with h1 h2
  subst h1 h2
  exact ⟨Nat.le_refl _,Nat.le_refl _,fun _ _=>⟨rfl,fun _ _=>rfl⟩⟩
 | .load m a k,W,W',ht,h=>by
  simp only [Sem.run] at h
  split at h
  ·rename_i v hv
   obtain ⟨i1,i2,i3⟩:=tame_run (s:=k v) (ht.2 v) h
   refine ⟨i1,i2,fun e1 e2=>?_⟩
   obtain ⟨j1,j2⟩:=i3 e1 e2
   refine ⟨j1,fun w hw=>?_⟩
   have hlt : a.block < W.heap.size:=World.block_lt_of_cell? W _ hv
   have hc : w.cell? a = some v:=(World.cell?_of_block (hw ht.1 _ hlt)).trans hv
   simp only [Sem.run,hc]
   exact j2 w hw
  ·rename_i hv
   split at h
   ·rename_i v l hf
    obtain ⟨i1,i2,i3⟩:=tame_run (s:=k v) (ht.2 v) h
    refine ⟨i1,i2,fun e1 e2=>?_⟩
    obtain ⟨j1,j2⟩:=i3 e1 e2
    refine ⟨j1,fun w hw=>?_⟩
    obtain ⟨hlt,hf'⟩:=farLoad_same (hw ht.1) hf
    have hc : w.cell? a = none:=(World.cell?_of_block (hw ht.1 _ hlt)).trans hv
    simp only [Sem.run,hc,hf']
    exact j2 w hw
   ·cases h
 | .new o k,W,W',ht,h=>by
  simp only [Sem.run] at h
  obtain ⟨i1,i2,-⟩:=tame_run (s:=k _) (ht _) h
  simp only [Array.size_push] at i1
  exact ⟨by omega,i2,fun e1 _=>by omega⟩
 | .getObj r k,W,W',ht,h=>by
  simp only [Sem.run] at h
  split at h
  ·cases h
  ·rename_i o hno ho
   obtain ⟨i1,i2,i3⟩:=tame_run (s:=k _) (ht.2 _) h
   refine ⟨i1,i2,fun e1 e2=>?_⟩
   obtain ⟨j1,j2⟩:=i3 e1 e2
   refine ⟨j1,fun w hw=>?_⟩
   have hlt : r < W.heap.size:=(Array.getElem?_eq_some_iff.1 ho).1
   simp only [Sem.run]
   rw [hw ht.1 _ hlt,ho]
   split
   ·rename_i c e f heq
    injection heq with heq
    exact absurd heq (hno _ _ _)
   ·rename_i o' _ heq
    injection heq with heq
    subst heq
    exact j2 w hw
   ·rename_i heq
    cases heq
  ·cases h
 | .choose q k,W,W',ht,h=>by
  simp only [Sem.run] at h
  split at h
  ·rename_i hq
   obtain ⟨i1,i2,i3⟩:=tame_run (s:=k _) (ht _) h
   refine ⟨i1,i2,fun e1 e2=>?_⟩
   obtain ⟨j1,j2⟩:=i3 e1 e2
   refine ⟨j1,fun w hw=>?_⟩
   simp only [Sem.run,hq,if_true]
   exact j2 w hw
  ·obtain ⟨i1,i2,-⟩:=tame_run (s:=k _) (ht _) h
   simp only at i1 i2
   exact ⟨i1,by omega,fun _ e2=>by omega⟩
 | .program k,W,W',ht,h=>by
  simp only [Sem.run] at h
  obtain ⟨i1,i2,i3⟩:=tame_run (s:=k P) ht h
  exact ⟨i1,i2,fun e1 e2=>⟨(i3 e1 e2).1,fun w hw=>by simp only [Sem.run]; exact (i3 e1 e2).2 w hw⟩⟩
 | .mark m k,W,W',ht,h=>by
  simp only [Sem.run] at h
  obtain ⟨i1,i2,i3⟩:=tame_run (s:=k) ht h
  exact ⟨i1,i2,fun e1 e2=>⟨(i3 e1 e2).1,fun w hw=>by simp only [Sem.run]; exact (i3 e1 e2).2 w hw⟩⟩
 | .halt _,_,_,_,h=>by simp only [Sem.run] at h; cases h
 | .store _ _ _ _,_,_,h,_=>h.elim
 | .shape _ _,_,_,h,_=>h.elim
 | .freeze _ _ _,_,_,h,_=>h.elim
 | .frozen _ _,_,_,h,_=>h.elim
 | .setObj _ _ _,_,_,h,_=>h.elim
 | .sys _ _,_,_,h,_=>h.elim
theorem tame_still {P : Program} {ld : Bool} {α : Type} {x : α} {s : Sem α} {W w : World} (ht : Tame P ld s) (h : s.run P W = .ok x W) (hw : ld = true->∀j,j < W.heap.size->w.heap[j]? = W.heap[j]?) : s.run P w = .ok x w:=
 ((tame_run ht h).2.2 rfl rfl).2 w hw
theorem tb {P : Program} {ld : Bool} {α β : Type} {f : α->Sem β} {s : Sem α} (h : Tame P ld s) (hf : ∀a,Tame P ld (f a)) : Tame P ld (s >>= f):=tame_bind h hf
theorem tame_ite {P : Program} {ld : Bool} {α : Type} {c : Prop} [Decidable c] {s u : Sem α} (h1 : Tame P ld s) (h2 : Tame P ld u) : Tame P ld (if c then s else u):=by split <;> assumption
theorem tame_info {P : Program} {ld : Bool} (t : TypeId) : Tame P ld (typeInfo t):=by
 unfold typeInfo
 refine tb (show Tame P ld program from trivial) fun p=>?_
 split <;> trivial
theorem tame_und {P : Program} {ld : Bool} (t : TypeId) : Tame P ld (underlying t):=by
 unfold underlying
 refine tb (show Tame P ld program from trivial) fun p=>?_
 split <;> trivial
theorem tame_size {P : Program} {ld : Bool} (t : TypeId) : Tame P ld (sizeOf t):=tb (tame_info t) fun _=>trivial
theorem tame_zero {P : Program} {ld : Bool} (t : TypeId) : Tame P ld (zeroValue t):=tb (tame_info t) fun _=>by split <;> trivial
theorem tame_isAgg {P : Program} {ld : Bool} (t : TypeId) : Tame P ld (isAgg t):=tb (tame_und t) fun _=>by split <;> trivial
theorem tame_map {P : Program} {ld : Bool} {α β : Type} {f : α->β} {s : Sem α} (h : Tame P ld s) : Tame P ld (f <$> s):=tame_bind (f:=fun a=>pure (f a)) h fun _=>trivial
theorem tame_elem {P : Program} {ld : Bool} (t : TypeId) : Tame P ld (elemOf t):=tb (tame_und t) fun _=>by split <;> trivial
theorem tame_newVar {P : Program} {ld : Bool} (t : TypeId) (v : Value) : Tame P ld (newVar t v):=tb (show Tame P ld (newObj _) from fun _=>trivial) fun _=>trivial
theorem tame_panic {P : Program} {ld : Bool} {α : Type} (e : RuntimeError) : Tame P ld (runtimePanic e : Sem α):=by
 unfold runtimePanic
 refine tb (show Tame P ld program from trivial) fun p=>?_
 dsimp only
 repeat' (first | exact trivial | split | refine tb (tame_elem _) fun _=>?_ | refine tb (tame_newVar _ _) fun _=>?_)
theorem tame_bounds {P : Program} {ld : Bool} {α : Type} (k : IntKind) (x y : Int) (c : BoundsCode) : Tame P ld (boundsPanic k x y c : Sem α):=by
 unfold boundsPanic
 dsimp only
 split
 ·exact tb (tame_map (show Tame P ld (choose _) from fun _=>trivial)) fun _=>tame_panic _
 ·exact tb (s:=pure _) trivial fun _=>tame_panic _
theorem tame_part {P : Program} {ld : Bool} (t : TypeId) (cs : Array Value) (k : Nat) : Tame P ld (part t cs k):=tb (tame_isAgg t) fun _=>by
 split
 ·exact tb (tame_size t) fun _=>trivial
 ·split <;> trivial
theorem tame_cells {P : Program} (a : Addr) : ∀(n i : Nat) (acc : Array Value),Tame P true (loadCellsFrom a i n acc)
 | 0,_,_=>trivial
 | n + 1,i,acc=>tb (show Tame P true (load _) from ⟨rfl,fun _=>trivial⟩) fun _=>tame_cells a n _ _
theorem tame_loadVar {P : Program} (t : TypeId) (a : Addr) : Tame P true (loadVar t a):=tb (tame_isAgg t) fun _=>by
 split
 ·exact tb (tame_size t) fun _=>tb (tame_cells a _ _ _) fun _=>trivial
 ·exact ⟨rfl,fun _=>trivial⟩
theorem tame_sure {P : Program} {ld : Bool} (v : Value) : Tame P ld (Instr.sureAddr v):=by unfold Instr.sureAddr; split <;> trivial
theorem tame_int {P : Program} {ld : Bool} (v : Value) : Tame P ld (asIntOf v):=by unfold asIntOf; split <;> trivial
theorem tame_bound {P : Program} {ld : Bool} (x : Value) (y : Nat) (c : BoundsCode) : Tame P ld (Instr.sliceBound x y c):=tb (tame_int x) fun a=>by
 obtain ⟨k,i⟩:=a
 dsimp only
 split
 ·trivial
 ·exact tame_bounds _ _ _ _
theorem tame_sbounds {P : Program} {ld : Bool} (b : Bool) (n c : Nat) (l h m : Option Value) : Tame P ld (Instr.sliceBounds b n c l h m):=by
 unfold Instr.sliceBounds
 have h3 : ∀(H M : Nat),Tame P ld (do
   let l ← match l with
    | some v=>Instr.sliceBound v H (if m.isSome then .slice3C else .sliceB)
    | none=>pure 0
   pure (l,H,M)):=fun H M=>by
  cases l
  ·trivial
  ·exact tb (tame_bound _ _ _) fun _=>trivial
 cases m <;> cases h
 ·exact h3 _ _
 ·exact tb (s:=pure _) trivial fun _=>tb (tame_bound _ _ _) fun _=>h3 _ _
 ·exact tb (tame_bound _ _ _) fun _=>trivial
 ·exact tb (tame_bound _ _ _) fun _=>tb (tame_bound _ _ _) fun _=>h3 _ _
theorem tame_addr {P : Program} {ld : Bool} (v : Value) : Tame P ld (asAddr v):=by
 unfold asAddr
 repeat' (first | exact trivial | exact tame_panic _ | split)
theorem tame_slice {P : Program} {ld : Bool} (t : TypeId) (x : Value) (l h m : Option Value) : Tame P ld (Instr.slice t x l h m):=by
 unfold Instr.slice
 dsimp only
 repeat' (first | exact trivial | refine tb (tame_und _) fun _=>?_ | refine tb (tame_sbounds _ _ _ _ _ _) fun _=>?_ | refine tb (tame_size _) fun _=>?_ | refine tb (tame_addr _) fun _=>?_ | refine tb (s:=stuck _) trivial fun _=>?_ | split)
theorem tame_sliceAt {P : Program} {ld : Bool} (t : TypeId) (x : Value) (l h m : Option Value) : Tame P ld (Instr.sliceAt t x l h m):=by
 unfold Instr.sliceAt
 dsimp only
 repeat' (first | exact trivial | exact tame_slice _ _ _ _ _ | refine tb (tame_und _) fun _=>?_ | refine tb (tame_sbounds _ _ _ _ _ _) fun _=>?_ | refine tb (tame_size _) fun _=>?_ | refine tb (tame_sure _) fun _=>?_ | split)
theorem tame_indexAt {P : Program} {ld : Bool} (t : TypeId) (x i : Value) : Tame P ld (Instr.indexAt t x i):=by
 unfold Instr.indexAt
 refine tb (tame_int _) fun a=>?_
 obtain ⟨k,n⟩:=a
 have h3 : ∀(r : Option Addr × Nat × TypeId),Tame P ld (match r with
   | (base,len,elem)=>do
    let tiny:=decide (len<=1) && (match ← underlying t with | .array ..=>true | _=>false)
    match base with
    | some a=>
     if 0<=n/\n < len then pure (.pointer (some (a.add (n.toNat * (← sizeOf elem)))))
     else if tiny then unsupported (.noEntry "op/indexAddr.an index out of range at an array of length 0 or 1 (ledger 616)")
     else boundsPanic k n len .index
    | none=>boundsPanic k n 0 .index : Sem Value):=fun r=>by
  obtain ⟨base,len,elem⟩:=r
  refine tb (tame_und _) fun d=>?_
  cases base with
  | none=>exact tame_bounds _ _ _ _
  | some a=>
   dsimp only
   by_cases hc : 0<=n/\n < len
   ·rw [if_pos hc]
    exact tb (tame_size _) fun _=>trivial
   ·rw [if_neg hc]
    refine show Tame P ld (if _ then _ else _) from ?_
    generalize (decide (len<=1) && _) = q
    cases q
    ·exact tame_bounds _ _ _ _
    ·trivial
 refine tb (tame_und _) fun d=>?_
 split
 ·exact tb (tame_sure _) fun _=>tb (s:=pure _) trivial fun _=>h3 _
 ·exact tb (s:=pure _) trivial fun _=>h3 _
 ·trivial
theorem tame_index {P : Program} {ld : Bool} (t : TypeId) (x i : Value) : Tame P ld (Instr.index t x i):=by
 unfold Instr.index
 repeat' (first | exact trivial | exact tame_bounds _ _ _ _ | exact tame_part _ _ _ | refine tb (tame_int _) fun _=>?_ | refine tb (tame_und _) fun _=>?_ | refine tb (tame_size _) fun _=>?_ | split)
theorem tame_agg {P : Program} {ld : Bool} (v : Value) : Tame P ld (asAgg v):=by unfold asAgg; split <;> trivial
theorem tame_field {P : Program} {ld : Bool} (t : TypeId) (x : Value) (i : Nat) : Tame P ld (Instr.field t x i):=by
 unfold Instr.field
 repeat' (first | exact trivial | exact tame_part _ _ _ | refine tb (tame_und _) fun _=>?_ | refine tb (tame_agg _) fun _=>?_ | split)
theorem tame_extract {P : Program} {ld : Bool} (x : Value) (i : Nat) : Tame P ld (Instr.extract x i):=by
 unfold Instr.extract
 repeat' (first | exact trivial | split)
theorem tame_makeI {P : Program} {ld : Bool} (t : TypeId) (x : Value) : Tame P ld (Instr.makeInterface t x):=by
 unfold Instr.makeInterface
 repeat' (first | exact trivial | refine tb (tame_und _) fun _=>?_ | split)
theorem tame_assert {P : Program} {ld : Bool} (x : Value) (t u : TypeId) (b : Bool) : Tame P ld (Instr.typeAssert x t u b):=by
 unfold Instr.typeAssert
 dsimp only
 repeat' (first | exact trivial | exact tame_panic _ | refine tb (tame_und _) fun _=>?_ | refine tb (tame_info _) fun _=>?_ | refine tb (tame_zero _) fun _=>?_ | split)
theorem tame_unary {P : Program} {ld : Bool} (op : UnOp) (x : Value) : Tame P ld (Op.unary op x):=by
 unfold Op.unary Op.intArith Op.intBits
 dsimp only
 repeat' (first | exact trivial | split)
def fieldOk (P : Program) (s : TypeId) (f : Nat) : Bool:=
 match P.underlying s with
 | some (.struct fs)=>match fs[f]? with
  | some d=>match P.info? d.type with
   | some i=>i.size != 0
   | none=>true
  | none=>true
 | _=>true
theorem tame_fieldAt {P : Program} {ld : Bool} (t : TypeId) (x : Value) (i : Nat) (h : fieldOk P t i = true) : Tame P ld (Instr.fieldAt t x i):=by
 unfold fieldOk at h
 show Tame P ld (Sem.program _)
 show Tame P ld (Sem.bind (match P.underlying t with | some d=>pure d | none=>stuck "no such type") _)
 cases hu : P.underlying t with
 | none=>trivial
 | some d=>
  rw [hu] at h
  cases d with
  | struct fs=>
   dsimp only at h
   show Tame P ld (match (fs[i]? : Option Field) with
    | some f=>do
     let a ← Instr.sureAddr x
     let __do_lift ← fieldPlace a f
     pure (Value.pointer (some __do_lift))
    | _=>stuck "fieldAddr: no such field")
   cases hf : fs[i]? with
   | none=>trivial
   | some f=>
    rw [hf] at h
    dsimp only at h
    refine tb (tame_sure _) fun a=>?_
    refine tb ?_ fun _=>trivial
    unfold fieldPlace sizeOf typeInfo
    show Tame P ld (Sem.bind (Sem.bind (match P.info? f.type with | some i=>pure i | none=>stuck "no such type") _) _)
    cases hi : P.info? f.type with
    | none=>trivial
    | some i=>
     rw [hi] at h
     show Tame P ld (if i.size = 0 then _ else _)
     rw [if_neg (by simpa using h)]
     trivial
  | _=>trivial
theorem tame_mapL {P : Program} {ld : Bool} {α β : Type} {f : α->Sem β} (h : ∀x,Tame P ld (f x)) : ∀l : List α,Tame P ld (l.mapM f)
 | []=>by rw [List.mapM_nil]; trivial
 | x :: l=>by rw [List.mapM_cons]; exact tb (h x) fun _=>tb (tame_mapL h l) fun _=>trivial
theorem tame_build {P : Program} {ld : Bool} (t : TypeId) (ps : Array (Nat × Value)) : Tame P ld (Instr.build t ps):=by
 unfold Instr.build
 refine tb (tame_zero t) fun _=>tb (tame_und t) fun _=>?_
 split
 ·refine tb ?_ fun _=>?_
  ·rw [Array.mapM_eq_mapM_toList]
   exact tame_map (tame_mapL (f:=fun f : Field=>do pure (f.offset,<-sizeOf f.type)) (fun _=>tb (tame_size _) fun _=>trivial) _)
  ·split <;> trivial
 ·refine tb (tame_size _) fun _=>?_
  split <;> trivial
 ·trivial
def binOk : Value->Value->Bool
 | .int _ _,.int _ _ | .bool _,.bool _ | .string _,.string _ | .nilIface,.iface _ _ | .iface _ _,.nilIface | .nilIface,.nilIface
 | .pointer none,.pointer _ | .pointer _,.pointer none | .slice none _ _,.slice _ _ _ | .slice _ _ _,.slice none _ _ | .map none,.map _ | .map _,.map none
 | .nilFunc,.nilFunc | .nilFunc,.func _ _ _ | .func _ _ _,.nilFunc=>true
 | _,_=>false
def lenOk : Value->Bool
 | .slice _ _ _ | .string _ | .map _=>true
 | _=>false
def okOp (P : Program) (ρ : Operand->Value) (o : Oper) : Bool:=
 match o.op with
 | .move _ | .assign _ | .pick _ _ _ | .load _ _ | .unOp _ _ _ | .field _ _ _ | .indexAddr _ _ _ | .index _ _ _ | .slice _ _ _ _ _ | .extract _ _ | .makeInterface _ _ | .makeFunc _ _ _ | .typeAssert _ _ _ _ | .build _ _=>true
 | .fieldAddr s _ f=>fieldOk P s f
 | .nilCheck x=>match ρ x with | .pointer (some _)=>true | _=>false
 | .binOp _ _ x y _=>binOk (ρ x) (ρ y)
 | .convert s d x=>match P.underlying s,P.underlying d,ρ x with | some (.int _),some (.int _),.int _ _=>true | _,_,_=>false
 | .call c=>match c.callee with | .builtin .len=>lenOk ((c.args.map ρ).getD 0 .nilIface) | _=>false
 | _=>false
theorem tame_equal {P : Program} {ld : Bool} {a b : Value} (h : binOk a b = true) : ∀(d : Nat) (t : TypeId),Tame P ld (Op.equalIn d t a b)
 | 0,_=>trivial
 | d + 1,t=>by
  unfold Op.equalIn
  refine tb (tame_und t) fun e=>?_
  unfold binOk at h
  split at h <;> first | cases h | skip
  all_goals cases e <;> first | exact trivial | (cases ‹Option Addr› <;> exact trivial) | (cases ‹Option Nat› <;> exact trivial) | (refine show Tame P ld (if _ then _ else _) from ?_; split <;> trivial)
theorem tame_guardIn {P : Program} {ld : Bool} : ∀(d : Nat) (t : TypeId),Tame P ld (Op.eqGuardIn d t .nilIface .nilIface)
 | 0,_=>trivial
 | d + 1,t=>by
  unfold Op.eqGuardIn
  refine tb (tame_und t) fun e=>?_
  cases e <;> trivial
theorem tame_guard {P : Program} {ld : Bool} {op : BinOp} {t : TypeId} {x y : Operand} {a b : Value} (h : binOk a b = true) : Tame P ld (eqGuard op t x y a b):=by
 unfold binOk at h
 split at h <;> first | cases h | skip
 all_goals cases op <;> first | exact trivial | skip
 all_goals exact tame_ite trivial (tame_ite trivial (tb (tame_guardIn _ _) fun q=>tame_ite trivial trivial))
theorem tame_shift {P : Program} {ld : Bool} {op : BinOp} {k yk : IntKind} {x y : Int} : Tame P ld (Op.shift op k x yk y):=by
 unfold Op.shift
 split
 ·exact tame_panic _
 ·cases op <;> trivial
theorem tame_arith {P : Program} {ld : Bool} {op : BinOp} {k : IntKind} {x y : Int} : Tame P ld (Op.intArith op k x y):=by
 unfold Op.intArith
 cases op <;> trivial
theorem tame_div {P : Program} {ld : Bool} {op : BinOp} {k : IntKind} {x y : Int} : Tame P ld (Op.intDiv op k x y):=by
 unfold Op.intDiv
 split
 ·exact tame_panic _
 ·cases op <;> trivial
theorem tame_bits {P : Program} {ld : Bool} {op : BinOp} {k : IntKind} {x y : Int} : Tame P ld (Op.intBits op k x y):=by
 unfold Op.intBits
 cases op <;> trivial
theorem tame_cmp {P : Program} {ld : Bool} {op : BinOp} {x y : Int} : Tame P ld (Op.intCmp op x y):=by
 unfold Op.intCmp
 cases op <;> trivial
theorem tame_str {P : Program} {ld : Bool} {op : BinOp} {x y : ByteArray} : Tame P ld (Op.stringOp op x y):=by
 unfold Op.stringOp
 cases op <;> first | trivial | (dsimp only; split <;> trivial)
theorem tame_bin {P : Program} {ld : Bool} {op : BinOp} {t : TypeId} {a b : Value} (h : binOk a b = true) : Tame P ld (binOp op t a b):=by
 have hq : ∀n : Bool,Tame P ld (do pure (.bool (n != (← Op.equal t a b))) : Sem Value):=fun n=>tb (tame_equal (P:=P) (ld:=ld) h Op.maxDepth t) fun _=>trivial
 have h0:=hq false
 have h1:=tb (f:=fun q=>(pure (.bool (!q)) : Sem Value)) (tame_equal (P:=P) (ld:=ld) h Op.maxDepth t) fun _=>trivial
 have h2:=tb (f:=fun q=>(pure (.bool q) : Sem Value)) (tame_equal (P:=P) (ld:=ld) h Op.maxDepth t) fun _=>trivial
 clear h0 hq
 unfold binOk at h
 split at h <;> first | cases h | skip
 ·rename_i k x k' y
  have hh : ∀s : Sem Value,Tame P ld s->Tame P ld (if k ≠ k' then stuck "BinOp: operands of different kinds" else s):=fun s hs=>by split <;> first | exact trivial | exact hs
  have h3:=tame_shift (P:=P) (ld:=ld) (op:=op) (k:=k) (yk:=k') (x:=x) (y:=y)
  have h4:=hh _ (tame_arith (P:=P) (ld:=ld) (op:=op) (k:=k) (x:=x) (y:=y))
  have h5:=hh _ (tame_div (P:=P) (ld:=ld) (op:=op) (k:=k) (x:=x) (y:=y))
  have h6:=hh _ (tame_bits (P:=P) (ld:=ld) (op:=op) (k:=k) (x:=x) (y:=y))
  have h7:=hh _ (tame_cmp (P:=P) (ld:=ld) (op:=op) (x:=x) (y:=y))
  clear h1 h2 hh
  cases op <;> first | exact h3 | exact h4 | exact h5 | exact h6 | exact h7
 ·cases op <;> first | exact trivial | exact h1 | exact h2
 ·rename_i x y
  have h3:=tame_str (P:=P) (ld:=ld) (op:=op) (x:=x) (y:=y)
  clear h1 h2
  cases op <;> exact h3
 all_goals cases op <;> first | exact trivial | exact h1 | exact h2 | (cases ‹Option Addr› <;> exact trivial)
theorem tame_len {P : Program} {ts : Array TypeId} {t : TypeId} {xs : Array Value} (h : lenOk (xs.getD 0 .nilIface) = true) : Tame P true (Builtin.len_ ts t xs):=by
 unfold Builtin.len_
 rw [Array.getD_eq_getD_getElem?] at h
 cases ts[0]? with
 | none=>trivial
 | some u=>
  cases hx : xs[0]? with
  | none=>trivial
  | some x=>
   rw [hx] at h
   dsimp only [Option.getD_some] at h
   refine tb (tame_und _) fun d=>?_
   unfold lenOk at h
   split at h <;> first | cases h | skip
   all_goals cases d <;> first | exact trivial | exact tb (tame_und _) fun e=>(by cases e <;> trivial) | skip
   cases ‹Option Nat›
   ·trivial
   ·exact tb (show Tame P true (getObj _) from ⟨rfl,fun _=>trivial⟩) fun o=>(by cases o <;> trivial)
theorem tame_conv {P : Program} {ld : Bool} {s d : TypeId} {x : Value} {j k i : IntKind} {n : Int} (h1 : P.underlying s = some (.int j)) (h2 : P.underlying d = some (.int k)) (h3 : x = .int i n) : Tame P ld (convert s d x):=by
 subst h3
 refine show Tame P ld (Sem.bind (match P.underlying s with | some d=>pure d | none=>stuck "no such type") _) from ?_
 rw [h1]
 refine show Tame P ld (Sem.bind (match P.underlying d with | some d=>pure d | none=>stuck "no such type") _) from ?_
 rw [h2]
 trivial
def readsOp (o : Oper) : Bool:=
 match o.op with
 | .load _ _ | .call _=>true
 | _=>false
theorem tame_op {P : Program} {ρ : Operand->Value} {o : Oper} (h : okOp P ρ o = true) : Tame P (readsOp o) (execOp ρ o):=by
 have hr : ∀t a,o.op = .load t a->readsOp o = true:=fun t a e=>by unfold readsOp; rw [e]
 have hc : ∀c,o.op = .call c->readsOp o = true:=fun c e=>by unfold readsOp; rw [e]
 generalize readsOp o = ld at *
 unfold okOp at h
 unfold execOp
 dsimp only
 split at h
 ·rename_i e; rw [e]; trivial
 ·rename_i e; rw [e]; trivial
 ·rename_i c a b e; rw [e]; exact tb (by unfold asBool; split <;> trivial) fun _=>trivial
 ·rename_i e; obtain rfl:=hr _ _ e; rw [e]; exact tb (tb (tame_sure _) fun _=>tame_loadVar _ _) fun _=>trivial
 ·rename_i e; rw [e]; exact tb (tame_unary _ _) fun _=>trivial
 ·rename_i e; rw [e]; exact tb (tame_field _ _ _) fun _=>trivial
 ·rename_i e; rw [e]; exact tb (tame_indexAt _ _ _) fun _=>trivial
 ·rename_i e; rw [e]; exact tb (tame_index _ _ _) fun _=>trivial
 ·rename_i e; rw [e]; exact tb (tame_sliceAt _ _ _ _ _) fun _=>trivial
 ·rename_i e; rw [e]; exact tb (tame_extract _ _) fun _=>trivial
 ·rename_i e; rw [e]; exact tb (tame_makeI _ _) fun _=>trivial
 ·rename_i e; rw [e]; exact tb (s:=pure _) trivial fun _=>trivial
 ·rename_i e; rw [e]; exact tb (tame_assert _ _ _ _) fun _=>trivial
 ·rename_i e; rw [e]; exact tb (tame_build _ _) fun _=>trivial
 ·rename_i e; rw [e]; exact tb (tame_fieldAt _ _ _ h) fun _=>trivial
 ·rename_i x e
  rw [e]
  dsimp only
  split at h
  ·rename_i a ea; rw [ea]; trivial
  ·cases h
 ·rename_i e; rw [e]; exact tb (tb (tame_guard h) fun _=>tame_bin h) fun _=>trivial
 ·rename_i s d x e
  rw [e]
  dsimp only
  split at h
  ·rename_i e1 e2 e3; exact tb (tame_conv e1 e2 e3) fun _=>trivial
  ·cases h
 ·rename_i c e
  obtain rfl:=hc _ e
  rw [e]
  dsimp only
  split at h
  ·rename_i ec
   unfold resolve
   rw [ec]
   refine show Tame P true (Sem.bind (Builtin.len_ c.argTypes o.type (c.args.map ρ)) fun a=>(Sem.pure (Next.value a))) from ?_
   exact tb (tame_len h) fun _=>trivial
  ·cases h
 ·cases h
theorem val_bind {P : Program} {α : Type} {s : Sem α} {f : α->Value} {W W' : World} {x : Next} (h : (s >>= fun a=>pure (Next.value (f a)) : Sem Next).run P W = .ok x W') : ∃v,x = .value v:=by
 rw [Sem.run_bind] at h
 cases hs : s.run P W with
 | ok a w=>
  rw [hs] at h
  injection h with h _
  exact ⟨_,h.symm⟩
 | halt _ _=>rw [hs] at h; cases h
theorem val_op {P : Program} {ρ : Operand->Value} {o : Oper} {W W' : World} {x : Next} (h : okOp P ρ o = true) (hr : (execOp ρ o).run P W = .ok x W') : ∃v,x = .value v:=by
 unfold okOp at h
 unfold execOp at hr
 dsimp only at hr
 split at h
 ·rename_i e; rw [e] at hr; injection hr with hr _; exact ⟨_,hr.symm⟩
 ·rename_i e; rw [e] at hr; injection hr with hr _; exact ⟨_,hr.symm⟩
 ·rename_i c a b e; rw [e] at hr; exact val_bind (f:=fun q=>if q = true then ρ a else ρ b) hr
 ·rename_i e; rw [e] at hr; exact val_bind (f:=id) hr
 ·rename_i e; rw [e] at hr; exact val_bind (f:=id) hr
 ·rename_i e; rw [e] at hr; exact val_bind (f:=id) hr
 ·rename_i e; rw [e] at hr; exact val_bind (f:=id) hr
 ·rename_i e; rw [e] at hr; exact val_bind (f:=id) hr
 ·rename_i e; rw [e] at hr; exact val_bind (f:=id) hr
 ·rename_i e; rw [e] at hr; exact val_bind (f:=id) hr
 ·rename_i e; rw [e] at hr; exact val_bind (f:=id) hr
 ·rename_i e; rw [e] at hr; exact val_bind (f:=id) hr
 ·rename_i e; rw [e] at hr; exact val_bind (f:=id) hr
 ·rename_i e; rw [e] at hr; exact val_bind (f:=id) hr
 ·rename_i e; rw [e] at hr; exact val_bind (f:=id) hr
 ·rename_i x e
  rw [e] at hr
  dsimp only at hr
  split at h
  ·rename_i a ea; rw [ea] at hr; injection hr with hr _; exact ⟨_,hr.symm⟩
  ·cases h
 ·rename_i e; rw [e] at hr; exact val_bind (f:=id) hr
 ·rename_i e; rw [e] at hr; exact val_bind (f:=id) hr
 ·rename_i c e
  rw [e] at hr
  dsimp only at hr
  split at h
  ·rename_i ec
   unfold resolve at hr
   rw [ec] at hr
   exact val_bind (s:=Builtin.len_ c.argTypes o.type (c.args.map ρ)) (f:=id) hr
  ·cases h
 ·cases h
end Go.Proofs.YtjdemlfceaikgaaGreat

namespace Go.Proofs.YtjdemlfceaikgaaGreat
theorem dvd_of_eqI {a b : Int} (h : a = b) : a ∣ b:=⟨1,by rw [h,Int.mul_one]⟩
def sumN : Nat->(Nat->Int)->Int
 | 0,_=>0
 | n + 1,f=>sumN n f + f n
theorem sumN_congr {n : Nat} {f g : Nat->Int} (h : ∀i,i < n->f i = g i) : sumN n f = sumN n g:=by
 induction n with
 | zero=>rfl
 | succ n ih=>unfold sumN; rw [ih (fun i hi=>h i (by omega)),h n (by omega)]
theorem sumN_zero {n : Nat} {f : Nat->Int} (h : ∀i,i < n->f i = 0) : sumN n f = 0:=by
 induction n with
 | zero=>rfl
 | succ n ih=>unfold sumN; rw [ih (fun i hi=>h i (by omega)),h n (by omega)]; rfl
theorem sumN_add (n : Nat) (f g : Nat->Int) : sumN n (fun i=>f i + g i) = sumN n f + sumN n g:=by
 induction n with
 | zero=>rfl
 | succ n ih=>unfold sumN; rw [ih]; dsimp only; omega
theorem sumN_mul (n : Nat) (k : Int) (f : Nat->Int) : sumN n (fun i=>k * f i) = k * sumN n f:=by
 induction n with
 | zero=>unfold sumN; rw [Int.mul_zero]
 | succ n ih=>unfold sumN; rw [ih,Int.mul_add]
theorem sumN_mulr (n : Nat) (k : Int) (f : Nat->Int) : sumN n (fun i=>f i * k) = sumN n f * k:=by
 rw [Int.mul_comm,<-sumN_mul]
 exact sumN_congr fun i _=>Int.mul_comm _ _
theorem sumN_lin (n : Nat) (x y : Int) (f g : Nat->Int) : sumN n (fun i=>x * f i + y * g i) = x * sumN n f + y * sumN n g:=by
 rw [sumN_add,sumN_mul,sumN_mul]
theorem sumN_first (n : Nat) (f : Nat->Int) : sumN (n + 1) f = f 0 + sumN n (fun i=>f (i + 1)):=by
 induction n with
 | zero=>unfold sumN sumN; omega
 | succ n ih=>
  have h : sumN (n + 1 + 1) f = sumN (n + 1) f + f (n + 1):=rfl
  have h2 : sumN (n + 1) (fun i=>f (i + 1)) = sumN n (fun i=>f (i + 1)) + f (n + 1):=rfl
  rw [h,h2,ih]; omega
theorem sumN_swap (n m : Nat) (f : Nat->Nat->Int) : sumN n (fun i=>sumN m (fun j=>f i j)) = sumN m (fun j=>sumN n (fun i=>f i j)):=by
 induction n with
 | zero=>exact (sumN_zero fun _ _=>rfl).symm
 | succ n ih=>
  show sumN n (fun i=>sumN m (fun j=>f i j)) + sumN m (fun j=>f n j) = sumN m (fun j=>sumN n (fun i=>f i j) + f n j)
  rw [sumN_add,ih]
theorem sumN_one {n : Nat} {f : Nat->Int} {c : Nat} (hc : c < n) (h : ∀i,i < n->i ≠ c->f i = 0) : sumN n f = f c:=by
 induction n with
 | zero=>omega
 | succ n ih=>
  unfold sumN
  by_cases e : c = n
  ·subst e
   rw [sumN_zero (fun i hi=>h i (by omega) (by omega))]; omega
  ·rw [ih (by omega) (fun i hi hne=>h i (by omega) hne),h n (by omega) (by omega)]; omega
theorem sumN_two {n : Nat} {f : Nat->Int} {c : Nat} (hc : c + 1 < n) (h : ∀i,i < n->i ≠ c->i ≠ c + 1->f i = 0) : sumN n f = f c + f (c + 1):=by
 induction n with
 | zero=>omega
 | succ n ih=>
  unfold sumN
  by_cases e : c + 1 = n
  ·subst e
   rw [sumN_one (c:=c) (by omega) (fun i hi hne=>h i (by omega) hne (by omega))]
  ·rw [ih (by omega) (fun i hi h1 h2=>h i (by omega) h1 h2),h n (by omega) (by omega) (by omega)]; omega
theorem sumN_dvd {n : Nat} {f : Nat->Int} {g : Int} (h : ∀i,i < n->g ∣ f i) : g ∣ sumN n f:=by
 induction n with
 | zero=>exact ⟨0,by unfold sumN; omega⟩
 | succ n ih=>exact Int.dvd_add (ih fun i hi=>h i (by omega)) (h n (by omega))
theorem sumN_ext {n m : Nat} (hnm : n<=m) {f : Nat->Int} (h : ∀i,n<=i->i < m->f i = 0) : sumN m f = sumN n f:=by
 induction m with
 | zero=>
  obtain rfl : n = 0:=by omega
  rfl
 | succ m ih=>
  rcases Nat.lt_or_ge n (m + 1) with h1 | h1
  ·unfold sumN
   rw [ih (by omega) (fun i a b=>h i a (by omega)),h m (by omega) (by omega)]
   have : ∀n,sumN n f = sumN n f:=fun _=>rfl
   cases n <;> simp [sumN]
  ·obtain rfl : n = m + 1:=by omega
   rfl
theorem sumN_natAbs {n : Nat} {f : Nat->Int} {B : Nat} (h : ∀i,i < n->(f i).natAbs<=B) : (sumN n f).natAbs<=n * B:=by
 induction n with
 | zero=>simp [sumN]
 | succ n ih=>
  have h1:=ih fun i hi=>h i (by omega)
  have h2:=h n (by omega)
  have h3 : (sumN n f + f n).natAbs<=(sumN n f).natAbs + (f n).natAbs:=by omega
  have h4 : (n + 1) * B = n * B + B:=Nat.succ_mul n B
  unfold sumN; omega
def sk (j b : Nat) : Nat:=if b < j then b else b + 1
theorem sk_ne (j b : Nat) : sk j b ≠ j:=by unfold sk; split <;> omega
theorem sk_lt {j b k : Nat} (h : b < k) : sk j b < k + 1:=by unfold sk; split <;> omega
theorem sk_zero (b : Nat) : sk 0 b = b + 1:=by unfold sk; split <;> omega
theorem sk_inj {j a b : Nat} (h : sk j a = sk j b) : a = b:=by
 unfold sk at h
 split at h <;> split at h <;> omega
def mnr (F : Nat->Nat->Int) (i j : Nat) : Nat->Nat->Int:=fun a b=>F (sk i a) (sk j b)
def sg1 (j : Nat) : Int:=if j % 2 = 0 then 1 else -1
theorem sg1_zero : sg1 0 = 1:=rfl
theorem sg1_succ (j : Nat) : sg1 (j + 1) = - sg1 j:=by unfold sg1; split <;> split <;> omega
theorem sg1_abs (j : Nat) (z : Int) : (sg1 j * z).natAbs = z.natAbs:=by unfold sg1; split <;> omega
def det : Nat->(Nat->Nat->Int)->Int
 | 0,_=>1
 | k + 1,F=>sumN (k + 1) fun j=>sg1 j * (F 0 j * det k (mnr F 0 j))
theorem det_succ (k : Nat) (F : Nat->Nat->Int) : det (k + 1) F = sumN (k + 1) fun j=>sg1 j * (F 0 j * det k (mnr F 0 j)):=rfl
theorem det_congr {k : Nat} : ∀{F G : Nat->Nat->Int},(∀a,a < k->∀b,b < k->F a b = G a b)->det k F = det k G:=by
 induction k with
 | zero=>intros; rfl
 | succ k ih=>
  intro F G h
  rw [det_succ,det_succ]
  refine sumN_congr fun j hj=>?_
  rw [h 0 (by omega) j hj,ih (F:=mnr F 0 j) (G:=mnr G 0 j) fun a ha b hb=>h _ (sk_lt ha) _ (sk_lt hb)]
def setc (F : Nat->Nat->Int) (c : Nat) (v : Nat->Int) : Nat->Nat->Int:=fun a b=>if b = c then v a else F a b
def setr (F : Nat->Nat->Int) (c : Nat) (v : Nat->Int) : Nat->Nat->Int:=fun a b=>if a = c then v b else F a b
theorem mnr_setc_same (F : Nat->Nat->Int) (i c : Nat) (v : Nat->Int) : mnr (setc F c v) i c = mnr F i c:=by
 funext a b
 unfold mnr setc
 rw [if_neg (sk_ne c b)]
theorem mnr_setc {F : Nat->Nat->Int} {i j c c' : Nat} {v : Nat->Int} (h : sk j c = c') : mnr (setc F c' v) i j = setc (mnr F i j) c (fun a=>v (sk i a)):=by
 funext a b
 unfold mnr setc
 by_cases e : b = c
 ·rw [if_pos e,if_pos (by rw [e,h])]
 ·rw [if_neg e,if_neg (fun e'=>e (sk_inj (e'.trans h.symm)))]
theorem sk_pre {j c : Nat} (h : c ≠ j) : ∃c',sk j c' = c/\(∀k,j < k + 1->c < k + 1->c' < k):=by
 by_cases h1 : c < j
 ·exact ⟨c,by unfold sk; rw [if_pos h1],fun k _ _=>by omega⟩
 ·exact ⟨c - 1,by unfold sk; rw [if_neg (by omega)]; omega,fun k _ _=>by omega⟩
theorem det_col_lin {k : Nat} : ∀{F : Nat->Nat->Int} {c : Nat} {v w : Nat->Int} {x y : Int},c < k ->
  det k (setc F c fun a=>x * v a + y * w a) = x * det k (setc F c v) + y * det k (setc F c w):=by
 induction k with
 | zero=>intro F c v w x y h; omega
 | succ k ih=>
  intro F c v w x y hc
  rw [det_succ,det_succ,det_succ,<-sumN_lin]
  refine sumN_congr fun j hj=>?_
  by_cases e : j = c
  ·subst e
   rw [mnr_setc_same,mnr_setc_same,mnr_setc_same]
   unfold setc
   simp only [if_true]
   rw [Int.add_mul,Int.mul_add,Int.mul_assoc x,Int.mul_assoc y,Int.mul_left_comm (sg1 j) x,Int.mul_left_comm (sg1 j) y]
  ·obtain ⟨c',h1,h2⟩:=sk_pre (j:=j) (c:=c) (fun h=>e h.symm)
   rw [mnr_setc h1,mnr_setc h1,mnr_setc h1,ih (h2 k hj hc)]
   have : ∀u : Nat->Int,setc F c u 0 j = F 0 j:=fun u=>by unfold setc; rw [if_neg e]
   rw [this,this,this,Int.mul_add,Int.mul_add,Int.mul_left_comm (F 0 j) x,Int.mul_left_comm (F 0 j) y,Int.mul_left_comm (sg1 j) x,Int.mul_left_comm (sg1 j) y]
theorem setc_self (F : Nat->Nat->Int) (c : Nat) : setc F c (fun a=>F a c) = F:=by
 funext a b
 unfold setc
 split
 ·rename_i h; rw [h]
 ·rfl
theorem setr_self (F : Nat->Nat->Int) (c : Nat) : setr F c (F c) = F:=by
 funext a b
 unfold setr
 split
 ·rename_i h; rw [h]
 ·rfl
theorem det_col_adj {k : Nat} : ∀{F : Nat->Nat->Int} {c : Nat},c + 1 < k->(∀a,F a c = F a (c + 1))->det k F = 0:=by
 induction k with
 | zero=>intro F c h; omega
 | succ k ih=>
  intro F c hc h
  rw [det_succ,sumN_two (c:=c) hc]
  ·rw [sg1_succ,h 0]
   have : mnr F 0 c = mnr F 0 (c + 1):=by
    funext a b
    unfold mnr
    by_cases e : b = c
    ·rw [e]
     have h1 : sk c c = c + 1:=by unfold sk; rw [if_neg (by omega)]
     have h2 : sk (c + 1) c = c:=by unfold sk; rw [if_pos (by omega)]
     rw [h1,h2,h]
    ·have : sk c b = sk (c + 1) b:=by unfold sk; split <;> split <;> omega
     rw [this]
   rw [this,Int.neg_mul]; omega
  ·intro j hj h1 h2
   have : det k (mnr F 0 j) = 0:=by
    rcases Nat.lt_or_ge j c with h3 | h3
    ·refine ih (c:=c - 1) (by omega) fun a=>?_
     unfold mnr
     have e1 : sk j (c - 1) = c:=by unfold sk; rw [if_neg (by omega)]; omega
     have e2 : sk j (c - 1 + 1) = c + 1:=by unfold sk; rw [if_neg (by omega)]; omega
     rw [e1,e2,h]
    ·refine ih (c:=c) (by omega) fun a=>?_
     unfold mnr
     have e1 : sk j c = c:=by unfold sk; rw [if_pos (by omega)]
     have e2 : sk j (c + 1) = c + 1:=by unfold sk; rw [if_pos (by omega)]
     rw [e1,e2,h]
   rw [this,Int.mul_zero,Int.mul_zero]
theorem det_col_one {k : Nat} {F : Nat->Nat->Int} {c : Nat} {v w : Nat->Int} (h : c < k) : det k (setc F c fun a=>v a + w a) = det k (setc F c v) + det k (setc F c w):=by
 have:=det_col_lin (F:=F) (v:=v) (w:=w) (x:=1) (y:=1) h
 rw [Int.one_mul,Int.one_mul] at this
 rw [<-this]
 congr 1
 funext a b
 unfold setc
 split
 ·show v a + w a = 1 * v a + 1 * w a
  rw [Int.one_mul,Int.one_mul]
 ·rfl
theorem setc_setc (F : Nat->Nat->Int) (c d : Nat) (v w : Nat->Int) (h : c ≠ d) : setc (setc F c v) d w = setc (setc F d w) c v:=by
 funext a b
 unfold setc
 by_cases e : b = d
 ·rw [if_pos e,if_neg (by omega),if_pos e]
 ·rw [if_neg e]
  by_cases e2 : b = c
  ·rw [if_pos e2,if_pos e2]
  ·rw [if_neg e2,if_neg e2,if_neg e]
theorem det_col_swap {k : Nat} {F G : Nat->Nat->Int} {c : Nat} (hc : c + 1 < k) (h : ∀a b,G a b = F a (if b = c then c + 1 else if b = c + 1 then c else b)) : det k G = - det k F:=by
 have key : ∀v w : Nat->Int,det k (setc (setc F c v) (c + 1) w) = - det k (setc (setc F c w) (c + 1) v):=by
  intro v w
  have h0 : det k (setc (setc F c fun a=>v a + w a) (c + 1) fun a=>v a + w a) = 0:=det_col_adj hc fun a=>by
   unfold setc
   rw [if_neg (by omega),if_pos rfl,if_pos rfl]
  have hv : det k (setc (setc F c v) (c + 1) v) = 0:=det_col_adj hc fun a=>by
   unfold setc
   rw [if_neg (by omega),if_pos rfl,if_pos rfl]
  have hw : det k (setc (setc F c w) (c + 1) w) = 0:=det_col_adj hc fun a=>by
   unfold setc
   rw [if_neg (by omega),if_pos rfl,if_pos rfl]
  rw [det_col_one hc,setc_setc _ _ _ _ v (by omega),setc_setc _ _ _ _ w (by omega),det_col_one (by omega),det_col_one (by omega)] at h0
  rw [setc_setc _ _ _ _ v (by omega)] at hv
  rw [setc_setc _ _ _ _ w (by omega)] at hw
  rw [setc_setc F c (c + 1) v w (by omega),setc_setc F c (c + 1) w v (by omega)]
  omega
 have h1:=key (fun a=>F a (c + 1)) (fun a=>F a c)
 have e1 : setc (setc F c fun a=>F a (c + 1)) (c + 1) (fun a=>F a c) = G:=by
  funext a b
  rw [h]
  unfold setc
  by_cases e : b = c
  ·rw [if_neg (by omega),if_pos e,if_pos e]
  ·rw [if_neg e,if_neg e]
   split <;> rfl
 have e2 : setc (setc F c fun a=>F a c) (c + 1) (fun a=>F a (c + 1)) = F:=by rw [setc_self,setc_self]
 rw [<-e1,h1,e2]
theorem det_col_eq {k : Nat} {F : Nat->Nat->Int} {c d : Nat} (hcd : c < d) (hd : d < k) (h : ∀a,F a c = F a d) : det k F = 0:=by
 obtain ⟨n,hn⟩ : ∃n,d = c + 1 + n:=⟨d - (c + 1),by omega⟩
 induction n generalizing F d with
 | zero=>subst hn; exact det_col_adj hd h
 | succ n ih=>
  have h1:=det_col_swap (k:=k) (F:=F) (G:=fun a b=>F a (if b = d - 1 then d - 1 + 1 else if b = d - 1 + 1 then d - 1 else b)) (c:=d - 1) (by omega) fun a b=>rfl
  have h2:=ih (F:=fun a b=>F a (if b = d - 1 then d - 1 + 1 else if b = d - 1 + 1 then d - 1 else b)) (d:=d - 1) (by omega) (by omega) (fun a=>by
   rw [if_neg (by omega),if_neg (by omega),if_pos rfl,h]
   congr 1
   omega) (by omega)
  omega
theorem det_first_col (k : Nat) : ∀F : Nat->Nat->Int,det (k + 1) F = sumN (k + 1) fun i=>sg1 i * (F i 0 * det k (mnr F i 0)):=by
 induction k with
 | zero=>intro F; rfl
 | succ k ih=>
  intro F
  rw [det_succ,sumN_first,sumN_first _ (fun i=>sg1 i * (F i 0 * det (k + 1) (mnr F i 0)))]
  congr 1
  have e1 : ∀j,det (k + 1) (mnr F 0 (j + 1)) = sumN (k + 1) fun i=>sg1 i * (F (i + 1) 0 * det k (fun a b=>F (sk i a + 1) (sk j b + 1))):=by
   intro j
   rw [ih]
   refine sumN_congr fun i hi=>?_
   have a1 : mnr F 0 (j + 1) i 0 = F (i + 1) 0:=by
    unfold mnr; rw [sk_zero]; rfl
   have a2 : mnr (mnr F 0 (j + 1)) i 0 = fun a b=>F (sk i a + 1) (sk j b + 1):=by
    funext a b
    unfold mnr
    rw [sk_zero,sk_zero]
    congr 1
    unfold sk; split <;> split <;> omega
   rw [a1,a2]
  have e2 : ∀i,det (k + 1) (mnr F (i + 1) 0) = sumN (k + 1) fun j=>sg1 j * (F 0 (j + 1) * det k (fun a b=>F (sk i a + 1) (sk j b + 1))):=by
   intro i
   rw [det_succ]
   refine sumN_congr fun j hj=>?_
   have a1 : mnr F (i + 1) 0 0 j = F 0 (j + 1):=by
    unfold mnr; rw [sk_zero]; rfl
   have a2 : mnr (mnr F (i + 1) 0) 0 j = fun a b=>F (sk i a + 1) (sk j b + 1):=by
    funext a b
    unfold mnr
    rw [sk_zero,sk_zero]
    congr 1
    unfold sk; split <;> split <;> omega
   rw [a1,a2]
  have l1 : sumN (k + 1) (fun j=>sg1 (j + 1) * (F 0 (j + 1) * det (k + 1) (mnr F 0 (j + 1)))) = sumN (k + 1) fun j=>sumN (k + 1) fun i=>sg1 (j + 1) * (F 0 (j + 1) * (sg1 i * (F (i + 1) 0 * det k (fun a b=>F (sk i a + 1) (sk j b + 1))))):=by
   refine sumN_congr fun j hj=>?_
   rw [e1 j,<-sumN_mul,<-sumN_mul]
  have l2 : sumN (k + 1) (fun i=>sg1 (i + 1) * (F (i + 1) 0 * det (k + 1) (mnr F (i + 1) 0))) = sumN (k + 1) fun i=>sumN (k + 1) fun j=>sg1 (i + 1) * (F (i + 1) 0 * (sg1 j * (F 0 (j + 1) * det k (fun a b=>F (sk i a + 1) (sk j b + 1))))):=by
   refine sumN_congr fun i hi=>?_
   rw [e2 i,<-sumN_mul,<-sumN_mul]
  rw [l1,l2,sumN_swap]
  refine sumN_congr fun i hi=>sumN_congr fun j hj=>?_
  rw [sg1_succ,sg1_succ]
  generalize det k _ = D
  generalize F 0 (j + 1) = P
  generalize F (i + 1) 0 = Q
  generalize sg1 i = s
  generalize sg1 j = t
  grind
def trp (F : Nat->Nat->Int) : Nat->Nat->Int:=fun a b=>F b a
theorem det_trp (k : Nat) : ∀F : Nat->Nat->Int,det k (trp F) = det k F:=by
 induction k with
 | zero=>intro F; rfl
 | succ k ih=>
  intro F
  rw [det_succ,det_first_col]
  refine sumN_congr fun j hj=>?_
  have : mnr (trp F) 0 j = trp (mnr F j 0):=rfl
  rw [this,ih]
  rfl
theorem det_row_lin {k : Nat} {F : Nat->Nat->Int} {c : Nat} {v w : Nat->Int} {x y : Int} (h : c < k) :
  det k (setr F c fun a=>x * v a + y * w a) = x * det k (setr F c v) + y * det k (setr F c w):=by
 have e : ∀u,trp (setr F c u) = setc (trp F) c u:=fun u=>rfl
 rw [<-det_trp,<-det_trp k (setr F c v),<-det_trp k (setr F c w),e,e,e]
 exact det_col_lin h
theorem det_row_zero {k : Nat} {F : Nat->Nat->Int} {c : Nat} (h : c < k) (h0 : ∀b,b < k->F c b = 0) : det k F = 0:=by
 have:=det_row_lin (F:=F) (v:=F c) (w:=F c) (x:=0) (y:=0) h
 rw [Int.zero_mul (det k _),Int.zero_add] at this
 rw [<-this]
 refine det_congr fun a ha b hb=>?_
 unfold setr
 split
 ·rename_i e; rw [e,h0 b hb]; simp
 ·rfl
theorem det_row_eq {k : Nat} {F : Nat->Nat->Int} {c d : Nat} (hcd : c < d) (hd : d < k) (h : ∀b,F c b = F d b) : det k F = 0:=by
 rw [<-det_trp]
 exact det_col_eq hcd hd h
theorem det_row_swap {k : Nat} {F G : Nat->Nat->Int} {c : Nat} (hc : c + 1 < k) (h : ∀a b,G a b = F (if a = c then c + 1 else if a = c + 1 then c else a) b) : det k G = - det k F:=by
 rw [<-det_trp k G,<-det_trp k F]
 exact det_col_swap hc fun a b=>h b a
theorem det_row_sum {k R : Nat} {F : Nat->Nat->Int} {i : Nat} {c : Nat->Int} {v : Nat->Nat->Int} (h : i < k) :
  det k (setr F i fun b=>sumN R fun t=>c t * v t b) = sumN R fun t=>c t * det k (setr F i (v t)):=by
 induction R with
 | zero=>exact det_row_zero h fun b hb=>by unfold setr; rw [if_pos rfl]; rfl
 | succ R ih=>
  show det k (setr F i fun b=>sumN R (fun t=>c t * v t b) + c R * v R b) = _
  have e : (fun b=>sumN R (fun t=>c t * v t b) + c R * v R b) = fun b=>1 * (fun b=>sumN R fun t=>c t * v t b) b + c R * v R b:=by
   funext b
   rw [Int.one_mul]
  rw [e,det_row_lin h,ih,Int.one_mul]
  rfl
theorem det_dvd_rows {k R : Nat} {F P : Nat->Nat->Int} {g : Int} (h : ∀σ : Nat->Nat,(∀a,a < k->σ a < R)->g ∣ det k fun a b=>F (σ a) b) :
  g ∣ det k fun a b=>sumN R fun t=>P a t * F t b:=by
 have key : ∀i,i<=k->∀σ : Nat->Nat,(∀a,a < k->σ a < R)->g ∣ det k fun a b=>if a < i then sumN R fun t=>P a t * F t b else F (σ a) b:=by
  intro i
  induction i with
  | zero=>
   intro _ σ hσ
   have:=h σ hσ
   simpa using this
  | succ i ih=>
   intro hi σ hσ
   have e : (fun a b=>if a < i + 1 then sumN R fun t=>P a t * F t b else F (σ a) b) = setr (fun a b=>if a < i then sumN R fun t=>P a t * F t b else F (σ a) b) i fun b=>sumN R fun t=>P i t * F t b:=by
    funext a b
    unfold setr
    by_cases e : a = i
    ·rw [if_pos e,if_pos (by omega),e]
    ·rw [if_neg e]
     dsimp only
     by_cases e2 : a < i
     ·rw [if_pos e2,if_pos (by omega)]
     ·rw [if_neg e2,if_neg (by omega)]
   rw [e,det_row_sum (by omega)]
   refine sumN_dvd fun t ht=>Int.dvd_trans ?_ (Int.dvd_mul_left _ _)
   have:=ih (by omega) (fun a=>if a = i then t else σ a) fun a ha=>by
    split
    ·exact ht
    ·exact hσ a ha
   have e3 : (fun a b=>if a < i then sumN R fun t=>P a t * F t b else F ((fun a=>if a = i then t else σ a) a) b) = setr (fun a b=>if a < i then sumN R fun t=>P a t * F t b else F (σ a) b) i (F t):=by
    funext a b
    unfold setr
    dsimp only
    by_cases e : a = i
    ·rw [if_pos e,if_pos e,if_neg (by omega)]
    ·rw [if_neg e,if_neg e]
   rw [e3] at this
   exact this
 by_cases hR : 0 < R
 ·have:=key k (Nat.le_refl _) (fun _=>0) (fun _ _=>hR)
  refine Int.dvd_trans this (dvd_of_eqI (det_congr fun a ha b hb=>?_))
  rw [if_pos ha]
 ·obtain rfl : R = 0:=by omega
  rcases Nat.eq_zero_or_pos k with hk | hk
  ·subst hk
   exact h (fun _=>0) (fun a ha=>by omega)
  ·rw [det_row_zero hk fun b hb=>rfl]
   exact Int.dvd_zero g
theorem det_dvd_cols {k C : Nat} {F Q : Nat->Nat->Int} {g : Int} (h : ∀τ : Nat->Nat,(∀a,a < k->τ a < C)->g ∣ det k fun a b=>F a (τ b)) :
  g ∣ det k fun a b=>sumN C fun t=>F a t * Q t b:=by
 rw [<-det_trp]
 have:=det_dvd_rows (k:=k) (R:=C) (F:=trp F) (P:=trp Q) (g:=g) fun σ hσ=>by
  rw [<-det_trp]
  exact h σ hσ
 refine Int.dvd_trans this (dvd_of_eqI (det_congr fun a ha b hb=>?_))
 unfold trp
 exact sumN_congr fun t ht=>Int.mul_comm _ _
def Inc (k : Nat) (σ : Nat->Nat) : Prop:=∀a,a + 1 < k->σ a < σ (a + 1)
def wt : Nat->(Nat->Nat)->Nat
 | 0,_=>0
 | n + 1,σ=>wt n σ + n * σ n
theorem wt_le {n R : Nat} {σ : Nat->Nat} (h : ∀a,a < n->σ a < R) : wt n σ<=n * (n * R):=by
 induction n with
 | zero=>simp [wt]
 | succ n ih=>
  have h1:=ih fun a ha=>h a (by omega)
  have h2:=h n (by omega)
  unfold wt
  have h3 : n * σ n<=n * R:=Nat.mul_le_mul_left _ (by omega)
  have h4 : n * (n * R)<=n * ((n + 1) * R):=Nat.mul_le_mul_left _ (Nat.mul_le_mul_right _ (by omega))
  have h5 : (n + 1) * ((n + 1) * R) = n * ((n + 1) * R) + (n + 1) * R:=Nat.succ_mul _ _
  have h6 : (n + 1) * R = n * R + R:=Nat.succ_mul _ _
  omega
theorem wt_congr {n : Nat} {σ τ : Nat->Nat} (h : ∀a,a < n->σ a = τ a) : wt n σ = wt n τ:=by
 induction n with
 | zero=>rfl
 | succ n ih=>unfold wt; rw [ih fun a ha=>h a (by omega),h n (by omega)]
theorem wt_swap {n : Nat} {σ τ : Nat->Nat} {c : Nat} (hc : c + 1 < n) (h : ∀a,τ a = σ (if a = c then c + 1 else if a = c + 1 then c else a)) (hlt : σ (c + 1) < σ c) : wt n σ < wt n τ:=by
 obtain ⟨m,rfl⟩ : ∃m,n = c + 2 + m:=⟨n - (c + 2),by omega⟩
 clear hc
 induction m with
 | zero=>
  show wt c σ + c * σ c + (c + 1) * σ (c + 1) < wt c τ + c * τ c + (c + 1) * τ (c + 1)
  have h1 : wt c σ = wt c τ:=wt_congr fun a ha=>by rw [h,if_neg (by omega),if_neg (by omega)]
  have h2 : τ c = σ (c + 1):=by rw [h,if_pos rfl]
  have h3 : τ (c + 1) = σ c:=by rw [h,if_neg (by omega),if_pos rfl]
  rw [h1,h2,h3]
  have e1 : (c + 1) * σ (c + 1) = c * σ (c + 1) + σ (c + 1):=Nat.succ_mul _ _
  have e2 : (c + 1) * σ c = c * σ c + σ c:=Nat.succ_mul _ _
  omega
 | succ m ih=>
  show wt (c + 2 + m) σ + (c + 2 + m) * σ (c + 2 + m) < wt (c + 2 + m) τ + (c + 2 + m) * τ (c + 2 + m)
  have h1 : τ (c + 2 + m) = σ (c + 2 + m):=by rw [h,if_neg (by omega),if_neg (by omega)]
  rw [h1]
  omega
theorem dvd_rows_inc {k R : Nat} {F : Nat->Nat->Int} {g : Int} (h : ∀σ : Nat->Nat,(∀a,a < k->σ a < R)->Inc k σ->g ∣ det k fun a b=>F (σ a) b) :
  ∀σ : Nat->Nat,(∀a,a < k->σ a < R)->g ∣ det k fun a b=>F (σ a) b:=by
 have key : ∀n,∀σ : Nat->Nat,(∀a,a < k->σ a < R)->k * (k * R) - wt k σ<=n->g ∣ det k fun a b=>F (σ a) b:=by
  intro n
  induction n with
  | zero=>
   intro σ hσ hn
   by_cases hi : ∀a,a + 1 < k->σ a < σ (a + 1)
   ·exact h σ hσ hi
   ·obtain ⟨c,hc⟩:=Classical.not_forall.1 hi
    obtain ⟨hc1,hc2⟩:=Classical.not_imp.1 hc
    rcases Nat.lt_or_ge (σ (c + 1)) (σ c) with h1 | h1
    ·have hs:=wt_swap (n:=k) (σ:=σ) (τ:=fun a=>σ (if a = c then c + 1 else if a = c + 1 then c else a)) hc1 (fun a=>rfl) h1
     have hl:=wt_le (n:=k) (R:=R) (σ:=fun a=>σ (if a = c then c + 1 else if a = c + 1 then c else a)) fun a ha=>hσ _ (by split; omega; split <;> omega)
     omega
    ·rw [det_row_eq (c:=c) (d:=c + 1) (by omega) hc1 (fun b=>by
      have : σ c = σ (c + 1):=by omega
      show F (σ c) b = F (σ (c + 1)) b
      rw [this])]
     exact Int.dvd_zero g
  | succ n ih=>
   intro σ hσ hn
   by_cases hi : ∀a,a + 1 < k->σ a < σ (a + 1)
   ·exact h σ hσ hi
   ·obtain ⟨c,hc⟩:=Classical.not_forall.1 hi
    obtain ⟨hc1,hc2⟩:=Classical.not_imp.1 hc
    rcases Nat.lt_or_ge (σ (c + 1)) (σ c) with h1 | h1
    ·have hs:=wt_swap (n:=k) (σ:=σ) (τ:=fun a=>σ (if a = c then c + 1 else if a = c + 1 then c else a)) hc1 (fun a=>rfl) h1
     have hr : ∀a,a < k->σ (if a = c then c + 1 else if a = c + 1 then c else a) < R:=fun a ha=>hσ _ (by split; omega; split <;> omega)
     have hl:=wt_le (n:=k) (R:=R) (σ:=fun a=>σ (if a = c then c + 1 else if a = c + 1 then c else a)) hr
     have:=ih (fun a=>σ (if a = c then c + 1 else if a = c + 1 then c else a)) hr (by omega)
     rw [det_row_swap (F:=fun a b=>F (σ a) b) hc1 (fun a b=>rfl)] at this
     exact Int.dvd_neg.1 this
    ·rw [det_row_eq (c:=c) (d:=c + 1) (by omega) hc1 (fun b=>by
      have : σ c = σ (c + 1):=by omega
      show F (σ c) b = F (σ (c + 1)) b
      rw [this])]
     exact Int.dvd_zero g
 exact fun σ hσ=>key _ σ hσ (Nat.le_refl _)
theorem dvd_cols_inc {k C : Nat} {F : Nat->Nat->Int} {g : Int} (h : ∀τ : Nat->Nat,(∀a,a < k->τ a < C)->Inc k τ->g ∣ det k fun a b=>F a (τ b)) :
  ∀τ : Nat->Nat,(∀a,a < k->τ a < C)->g ∣ det k fun a b=>F a (τ b):=by
 intro τ hτ
 rw [<-det_trp]
 refine dvd_rows_inc (F:=trp F) (fun σ hσ hi=>?_) τ hτ
 rw [<-det_trp]
 exact h σ hσ hi
theorem dvd_both_inc {k R C : Nat} {F : Nat->Nat->Int} {g : Int} (h : ∀σ τ : Nat->Nat,(∀a,a < k->σ a < R)->(∀a,a < k->τ a < C)->Inc k σ->Inc k τ->g ∣ det k fun a b=>F (σ a) (τ b)) :
  ∀σ τ : Nat->Nat,(∀a,a < k->σ a < R)->(∀a,a < k->τ a < C)->g ∣ det k fun a b=>F (σ a) (τ b):=by
 intro σ τ hσ hτ
 refine dvd_rows_inc (F:=fun a b=>F a (τ b)) (fun σ hσ hi=>?_) σ hσ
 exact dvd_cols_inc (F:=fun a b=>F (σ a) b) (fun τ hτ hj=>h σ τ hσ hτ hi hj) τ hτ
theorem Inc.le {k : Nat} {σ : Nat->Nat} (h : Inc k σ) : ∀a,a < k->a<=σ a:=by
 intro a
 induction a with
 | zero=>intro _; omega
 | succ a ih=>
  intro ha
  have h1:=ih (by omega)
  have h2:=h a ha
  omega
theorem Inc.lt {k : Nat} {σ : Nat->Nat} (h : Inc k σ) : ∀a b,a < b->b < k->σ a < σ b:=by
 intro a b hab
 induction b with
 | zero=>omega
 | succ b ih=>
  intro hb
  have h2:=h b hb
  rcases Nat.lt_or_ge a b with h3 | h3
  ·have:=ih h3 (by omega)
   omega
  ·obtain rfl : a = b:=by omega
   exact h2
def prodN : Nat->(Nat->Int)->Int
 | 0,_=>1
 | n + 1,f=>prodN n f * f n
theorem prodN_first (n : Nat) (f : Nat->Int) : prodN (n + 1) f = f 0 * prodN n (fun i=>f (i + 1)):=by
 induction n with
 | zero=>unfold prodN prodN; rw [Int.one_mul,Int.mul_one]
 | succ n ih=>
  have h : prodN (n + 1 + 1) f = prodN (n + 1) f * f (n + 1):=rfl
  have h2 : prodN (n + 1) (fun i=>f (i + 1)) = prodN n (fun i=>f (i + 1)) * f (n + 1):=rfl
  rw [h,h2,ih,Int.mul_assoc]
theorem prodN_pos {n : Nat} {f : Nat->Int} (h : ∀i,i < n->0 < f i) : 0 < prodN n f:=by
 induction n with
 | zero=>exact Int.one_pos
 | succ n ih=>exact Int.mul_pos (ih fun i hi=>h i (by omega)) (h n (by omega))
theorem prodN_dvd {n : Nat} {f g : Nat->Int} (h : ∀i,i < n->f i ∣ g i) : prodN n f ∣ prodN n g:=by
 induction n with
 | zero=>exact Int.dvd_refl _
 | succ n ih=>exact Int.mul_dvd_mul (ih fun i hi=>h i (by omega)) (h n (by omega))
theorem det_lower {k : Nat} : ∀{F : Nat->Nat->Int},(∀a,a < k->∀b,b < k->a < b->F a b = 0)->det k F = prodN k fun i=>F i i:=by
 induction k with
 | zero=>intros; rfl
 | succ k ih=>
  intro F h
  rw [det_succ,sumN_one (c:=0) (by omega),sg1_zero,Int.one_mul,prodN_first,ih]
  ·rfl
  ·intro a ha b hb hab
   unfold mnr
   rw [sk_zero,sk_zero]
   exact h _ (by omega) _ (by omega) (by omega)
  ·intro j hj hne
   rw [h 0 (by omega) j hj (by omega),Int.zero_mul,Int.mul_zero]
theorem det_upper {k : Nat} {F : Nat->Nat->Int} (h : ∀a,a < k->∀b,b < k->b < a->F a b = 0) : det k F = prodN k fun i=>F i i:=by
 rw [<-det_trp,det_lower]
 ·rfl
 ·intro a ha b hb hab
  exact h b hb a ha hab
def factN : Nat->Nat
 | 0=>1
 | n + 1=>(n + 1) * factN n
theorem det_natAbs {k h : Nat} : ∀{F : Nat->Nat->Int},(∀a,a < k->∀b,b < k->(F a b).natAbs<=h)->(det k F).natAbs<=factN k * h ^ k:=by
 induction k with
 | zero=>intro F _; simp [det,factN]
 | succ k ih=>
  intro F hF
  rw [det_succ]
  refine Nat.le_trans (sumN_natAbs (B:=h * (factN k * h ^ k)) fun j hj=>?_) ?_
  ·rw [sg1_abs,Int.natAbs_mul]
   exact Nat.mul_le_mul (hF 0 (by omega) j hj) (ih fun a ha b hb=>hF _ (sk_lt ha) _ (sk_lt hb))
  ·show _<=(k + 1) * factN k * h ^ (k + 1)
   rw [Nat.pow_succ]
   apply Nat.le_of_eq
   rw [Nat.mul_left_comm h,Nat.mul_comm h,Nat.mul_assoc]
end Go.Proofs.YtjdemlfceaikgaaGreat
