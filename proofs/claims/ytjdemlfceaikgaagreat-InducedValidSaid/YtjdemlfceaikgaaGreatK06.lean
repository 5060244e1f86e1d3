/- Serial walks of regions that draw their order: the operations one by one in the order of the text; what only reads is reckoned in the region's first world, a call in whatever later one. -/
import Derived.Test.YtjdemlfceaikgaaGreatK02
import Derived.Test.YtjdemlfceaikgaaGreatK05
set_option linter.unusedVariables false
set_option linter.unusedSimpArgs false
set_option linter.unusedSectionVars false
namespace Go.Proofs.YtjdemlfceaikgaaGreat
open Go.RowKit
def LastsB (P : World->Value->Prop) : Prop:=∀w w' v,Below w.heap.size w w'->P w v->P w' v
theorem lastsB_of {G : World->Value->Prop} (h : Lasts G) : LastsB G:=fun _ _ _ b hg=>h _ _ _ (lx b) hg
theorem okOp_congr {P : Program} {ρ ρ' : Operand->Value} {o : Oper} (h : ∀x ∈ o.op.operands,ρ x = ρ' x) : okOp P ρ o = okOp P ρ' o:=by
 obtain ⟨dst,op,type,pos,after,guard⟩:=o
 cases op <;> first | rfl | skip
 case binOp op t x y u=>simp only [Op.operands] at h; simp only [okOp]; rw [h x sI,h y sI]
 case nilCheck x=>simp only [Op.operands] at h; simp only [okOp]; rw [h x sI]
 case convert s d x=>simp only [Op.operands] at h; simp only [okOp]; rw [h x sI]
 case call c=>
  simp only [Op.operands] at h
  simp only [okOp]
  rw [Array.map_congr_left (xs:=c.args) fun x hx=>h x (by unfold Call.operands; simp [hx])]
section
variable {P : Program} {ops : Array Oper}
theorem okOp_put (o : Oper) (a : Act) (dst : Option Tmp) (v : Value) (h : ∀d,dst = some d->d ∉ o.looksAt ops) : okOp P (a.put dst v).eval o = okOp P a.eval o:=
 okOp_congr fun x hx=>Act.eval_put fun d hd hxd=>h d hd (by
  subst hxd
  exact List.mem_append_left _ (List.mem_filterMap.2 ⟨.tmp d,by simpa using hx,rfl⟩))
def givesR (P : Program) (w : World) (G : World->Value->Prop) : Result Next->Prop
 | .ok (.value v) w'=>G w' v/\Below w.heap.size w w'
 | .ok (.enter f args) w'=>w' = w/\Calls P f args w fun e w2=>∃v,e = .returned v/\G w2 v/\Below w.heap.size w w2
 | .ok (.row r args) w'=>w' = w/\Rows P r args w fun v w2=>G w2 v/\Below w.heap.size w w2
 | _=>False
def gives (P : Program) (o : Oper) (a : Act) (w : World) (G : World->Value->Prop) : Prop:=givesR P w G ((execOp a.eval o).run P w)
theorem gives_wp {o : Oper} {a : Act} {w : World} {G : World->Value->Prop} {K : Act->World->Prop} {Q : Exit->Act->World->Prop} (h : gives P o a w G)
  (hK : ∀v w',G w' v->Below w.heap.size w w'->K (a.put o.dst v) w') : o.wp P a w K Q:=by
 unfold gives at h
 unfold Oper.wp
 generalize (execOp a.eval o).run P w = r at *
 cases r with
 | halt x w'=>exact h.elim
 | ok n w'=>
  cases n <;> first | exact h.elim | skip
  case value v=>exact hK _ _ h.1 h.2
  case enter f args=>
   obtain ⟨rfl,h⟩:=h
   exact h.mono fun e w2 ⟨v,he,hg,hb⟩=>by subst he; exact hK _ _ hg hb
  case row f args=>
   obtain ⟨rfl,h⟩:=h
   exact h.mono fun v w2 ⟨hg,hb⟩=>hK _ _ hg hb
theorem gives_mono {o : Oper} {a : Act} {w : World} {G G' : World->Value->Prop} (hG : ∀w v,G w v->G' w v) (h : gives P o a w G) : gives P o a w G':=by
 unfold gives at h ⊢
 generalize (execOp a.eval o).run P w = r at *
 cases r with
 | halt x w'=>exact h.elim
 | ok n w'=>
  cases n <;> first | exact h.elim | skip
  case value v=>exact ⟨hG _ _ h.1,h.2⟩
  case enter f args=>exact ⟨h.1,h.2.mono fun e w2 ⟨v,he,hg,hb⟩=>⟨v,he,hG _ _ hg,hb⟩⟩
  case row f args=>exact ⟨h.1,h.2.mono fun v w2 ⟨hg,hb⟩=>⟨hG _ _ hg,hb⟩⟩
theorem gives_ex {o : Oper} {a : Act} {w : World} {G : World->Value->Prop} (h : gives P o a w G) : ∃v w',G w' v/\Below w.heap.size w w':=by
 unfold gives at h
 generalize (execOp a.eval o).run P w = r at *
 cases r with
 | halt x w'=>exact h.elim
 | ok n w'=>
  cases n <;> first | exact h.elim | skip
  case value v=>exact ⟨_,_,h.1,h.2⟩
  case enter f args=>
   obtain ⟨e,w2,-,⟨v,-,hg,hb⟩,-⟩:=h.2 []
   exact ⟨_,_,hg,hb⟩
  case row f args=>
   obtain ⟨v,w2,⟨hg,hb⟩,-⟩:=h.2 (Frame.enter P 0 #[] .normal) []
   exact ⟨_,_,hg,hb⟩
def wr (w : World) (b : Nat) (t : TypeId) (cs : Array Value) : World:={ w with heap:=w.heap.setIfInBounds b (.cells cs t (0,0)) }
theorem wr_self {w : World} {b : Nat} {t : TypeId} {cs : Array Value} (h : b < w.heap.size) : Blk (wr w b t cs) b t cs:=Array.getElem?_setIfInBounds_self_of_lt h
theorem wr_ne {w : World} {b k : Nat} {t : TypeId} {cs : Array Value} (h : k ≠ b) : (wr w b t cs).heap[k]? = w.heap[k]?:=Array.getElem?_setIfInBounds_ne (Ne.symm h)
theorem wr_below {W w : World} {b : Nat} {t : TypeId} {cs : Array Value} {n0 : Nat} (h : Below n0 W w) (hb : n0<=b) : Below n0 W (wr w b t cs):=
 ⟨h.os,h.tape,h.output,by unfold wr; simpa using h.size,fun k hk=>(wr_ne oM).trans (h.block k hk)⟩
theorem wr_lext {w : World} {b : Nat} {t : TypeId} {cs cs' : Array Value} (h : Blk w b t cs) (ht : t ≠ tU) : LExt w (wr w b t cs'):=fun k ls fz hk=>by
 by_cases e : k = b
 ·subst e
  unfold Blk at h
  rw [h] at hk
  injection hk with hk
  injection hk with _ hk _
  exact absurd hk ht
 ·rw [wr_ne e]; exact hk
structure BelD (D : Nat->Prop) (W w : World) : Prop where
 os : w.os = W.os
 tape : w.tape = W.tape
 output : w.output = W.output
 size : W.heap.size<=w.heap.size
 block : ∀k,k < W.heap.size->¬ D k->w.heap[k]? = W.heap[k]?
theorem BelD.of {D : Nat->Prop} {W w : World} (h : Below W.heap.size W w) : BelD D W w:=⟨h.os,h.tape,h.output,h.size,fun k hk _=>h.block k hk⟩
theorem BelD.add {D : Nat->Prop} {W w w' : World} (h : BelD D W w) (hb : Below w.heap.size w w') : BelD D W w':=
 ⟨hb.os.trans h.os,hb.tape.trans h.tape,hb.output.trans h.output,Nat.le_trans h.size hb.size,fun k hk hd=>(hb.block k (Nat.lt_of_lt_of_le hk h.size)).trans (h.block k hk hd)⟩
theorem BelD.write {D : Nat->Prop} {W w : World} {b : Nat} {t : TypeId} {cs : Array Value} (h : BelD D W w) (hb : W.heap.size<=b ∨ D b) : BelD D W (wr w b t cs):=
 ⟨h.os,h.tape,h.output,by unfold wr; simpa using h.size,fun k hk hd=>(wr_ne (by rintro rfl; rcases hb with hb | hb; omega; exact hd hb)).trans (h.block k hk hd)⟩
theorem BelD.bel {D : Nat->Prop} {W w : World} (h : BelD D W w) (B : Nat) (hB : B<=W.heap.size) (hD : ∀k,D k->B<=k) : Below B W w:=
 ⟨h.os,h.tape,h.output,h.size,fun k hk=>h.block k oM fun hd=>by have:=hD k hd; omega⟩
def LastsW (n0 : Nat) (t : TypeId) (m : Nat) (G : World->Value->Prop) : Prop:=∀w v b cs cs',n0<=b->Blk w b t cs->cs.size = m->cs'.size = cs.size->G w v->G (wr w b t cs') v
theorem lastsW_of {n0 m : Nat} {t : TypeId} {G : World->Value->Prop} (ht : t ≠ tU) (h : Lasts G) : LastsW n0 t m G:=fun _ _ _ _ _ _ hb _ _ hg=>h _ _ _ (wr_lext hb ht) hg
def Boxed (n0 : Nat) (t : TypeId) (m : Nat) (w : World) (v : Value) : Prop:=∃b cs,v = ptr b/\n0<=b/\Blk w b t cs/\cs.size = m
theorem lastsB_box (n0 : Nat) (t : TypeId) (m : Nat) : LastsB (Boxed n0 t m):=fun _ _ _ hb ⟨b,cs,h1,h2,h3,h4⟩=>⟨b,cs,h1,h2,h3.below hb,h4⟩
theorem lastsW_box (n0 n1 : Nat) (t t1 : TypeId) (m m1 : Nat) : LastsW n0 t1 m1 (Boxed n1 t m):=fun w v c cs1 cs2 _ hc _ hs ⟨b,cs,h1,h2,h3,h4⟩=>by
 by_cases e : b = c
 ·subst e
  unfold Blk at hc h3
  rw [hc] at h3
  injection h3 with h3
  injection h3 with e1 e2 _
  subst e1 e2
  exact ⟨b,cs2,h1,h2,wr_self (Array.getElem?_eq_some_iff.1 hc).1,hs.trans h4⟩
 ·exact ⟨b,cs,h1,h2,(wr_ne e).trans h3,h4⟩
def flatB (v : Value) : Bool:=v.cells.all fun c=>match c with | .agg _ | .tuple _=>false | _=>true
def tyCells (P : Program) (t : TypeId) : Option Nat:=(P.info? t).map (·.size)
inductive Kd where
 | q
 | skip
 | call (ds : List Nat) (G : World->Value->Prop)
 | store (ai : Nat) (t : TypeId) (m : Nat)
 | es (b : Nat) (t : TypeId) (m : Nat)
def dstAt (ops : Array Oper) (j : Nat) : Option Tmp:=(ops[j]?).bind (·.dst)
def factAt (ops : Array Oper) (kd : Nat->Kd) (j : Nat) (T : Array Value) (w : World) : Prop:=
 match kd j with
 | .call _ G=>∀d v,dstAt ops j = some d->T[d]? = some v->G w v
 | _=>True
structure Good (ops : Array Oper) (kd : Nat->Kd) (al : Nat->Bool) (n0 n N : Nat) : Prop where
 dst : ∀i o d,i < n->ops[i]? = some o->o.dst = some d->d < N
 dstc : ∀i o ds G,i < n->ops[i]? = some o->kd i = .call ds G->∃d,o.dst = some d
 inj : ∀i j o o' d,i < n->j < n->ops[i]? = some o->ops[j]? = some o'->o.dst = some d->o'.dst = some d->i = j
 look : ∀i j o o' d,i < n->j < n->ops[i]? = some o->ops[j]? = some o'->o'.dst = some d->d ∈ o.looksAt ops->waits o j = true
 back : ∀i o j,ops[i]? = some o->waits o j = true->j < i
 sel : ∀i o cs b,i < n->ops[i]? = some o->o.op ≠ .select cs b
 deps : ∀i ds G,i < n->kd i = .call ds G->∀d ∈ ds,d < i/\∀(o : Oper) (L : Array Bool),ops[i]? = some o->(∀k,waits o k = true->L[k]? = some true)->ClosedL ops L->L[d]? = some true
 last : ∀i ds G,kd i = .call ds G->LastsB G
 lastw : ∀i ds G j ai t m,kd i = .call ds G->kd j = .store ai t m->LastsW n0 t m G
 sto : ∀i ai t m,i < n->kd i = .store ai t m->∃o tt ad vo,ops[i]? = some o/\o.op = .store tt (.tmp ad) vo/\o.dst = none/\ai < n/\dstAt ops ai = some ad/\al ai = true/\kd ai = .call [] (Boxed n0 t m)/\waits o ai = true
 sinj : ∀i j ai t m t' m',kd i = .store ai t m->kd j = .store ai t' m'->i = j
 es : ∀i b t m,i < n->kd i = .es b t m->∃o tt ad vo,ops[i]? = some o/\o.op = .store tt ad vo/\o.dst = none
 einj : ∀i j b t m t' m',kd i = .es b t m->kd j = .es b t' m'->i = j
 rd : ∀i o j b t m,i < n->kd i = .q->ops[i]? = some o->readsOp o = true->j < n->kd j = .es b t m->∀L : Array Bool,ClosedL ops L->L[j]? = some true->L[i]? = some true
 laste : ∀i ds G j b t m,kd i = .call ds G->kd j = .es b t m->LastsW 0 t m G
 alk : ∀i,al i = true->∃t m,kd i = .call [] (Boxed n0 t m)
variable {kd : Nat->Kd} {al : Nat->Bool} {D : Nat->Prop} {W : World} {n n0 N : Nat}
def Ob (P : Program) (ops : Array Oper) (kd : Nat->Kd) (al : Nat->Bool) (D : Nat->Prop) (W : World) (i : Nat) (o : Oper) (a : Act) : Prop:=
 match kd i with
 | .q=>Region.wanted o (yielded ops a.tmps) = true->∃v,okOp P a.eval o = true/\(execOp a.eval o).run P W = .ok (.value v) W
 | .skip=>Region.wanted o (yielded ops a.tmps) = false
 | .call ds G=>Region.wanted o (yielded ops a.tmps) = true/\∀w,BelD D W w->(∀d ∈ ds,factAt ops kd d a.tmps w)->gives P o a w fun w2 v=>G w2 v/\(al i = true->∃b,v = ptr b/\w.heap.size<=b)
 | .store _ _ m=>Region.wanted o (yielded ops a.tmps) = true/\∃tt ad vo,o.op = .store tt (.tmp ad) vo/\tyCells P tt = some m/\(a.eval vo).cells.size = m/\flatB (a.eval vo) = true
 | .es b _ m=>Region.wanted o (yielded ops a.tmps) = true/\∃tt ad vo,o.op = .store tt ad vo/\a.eval ad = ptr b/\tyCells P tt = some m/\(a.eval vo).cells.size = m/\flatB (a.eval vo) = true
def Val (P : Program) (ops : Array Oper) (kd : Nat->Kd) (D : Nat->Prop) (W : World) (n : Nat) (r : List Nat) (i : Nat) (o : Oper) (a : Act) (v : Value) : Prop:=
 match kd i with
 | .q=>(Region.wanted o (yielded ops a.tmps) = true/\okOp P a.eval o = true/\(execOp a.eval o).run P W = .ok (.value v) W) ∨ (Region.wanted o (yielded ops a.tmps) = false/\v = undef)
 | .skip=>Region.wanted o (yielded ops a.tmps) = false/\v = undef
 | .call _ G=>Region.wanted o (yielded ops a.tmps) = true/\∃w,BelD D W w/\(∀j,j < n->j ∉ r->j ≠ i->factAt ops kd j a.tmps w)/\G w v
 | .store _ _ _=>v = undef
 | .es _ _ _=>v = undef
def SS (P : Program) (ops : Array Oper) (kd : Nat->Kd) (al : Nat->Bool) (D : Nat->Prop) (W : World) (n : Nat) (E : Act->Prop) : List Nat->Act->Prop
 | [],a=>E a
 | i :: r,a=>∃o,ops[i]? = some o/\Ob P ops kd al D W i o a/\∀v,Val P ops kd D W n r i o a v->SS P ops kd al D W n E r (a.put o.dst v)
theorem put_get {a : Act} {d : Tmp} {v : Value} (h : d < a.tmps.size) : (a.put (some d) v).tmps[d]? = some v:=Array.getElem?_setIfInBounds_self_of_lt h
theorem put_ne {a : Act} {d e : Tmp} {v : Value} (h : d ≠ e) : (a.put (some d) v).tmps[e]? = a.tmps[e]?:=Array.getElem?_setIfInBounds_ne h
theorem put_size {a : Act} {d : Option Tmp} {v : Value} : (a.put d v).tmps.size = a.tmps.size:=by cases d <;> simp [Act.put]
theorem put_comm {a : Act} {d e : Option Tmp} {u v : Value} (h : ∀x,d = some x->e ≠ some x) : (a.put d u).put e v = (a.put e v).put d u:=by
 cases d with
 | none=>rfl
 | some x=>
  cases e with
  | none=>rfl
  | some y=>
   simp only [Act.put]
   rw [Array.setIfInBounds_comm _ _ (fun e=>h x rfl (by rw [e]))]
theorem fact_put {i j : Nat} {o : Oper} {a : Act} {u : Value} {w : World} (g : Good ops kd al n0 n N) (hi : i < n) (hj : j < n) (ho : ops[i]? = some o) (hne : j ≠ i) :
  factAt ops kd j (a.put o.dst u).tmps w ↔ factAt ops kd j a.tmps w:=by
 cases hd : o.dst with
 | none=>exact Iff.rfl
 | some d=>
 unfold factAt
 split
 ·refine forall_congr' fun e=>forall_congr' fun v=>imp_congr_right fun he=>?_
  have hde : d ≠ e:=by
   rintro rfl
   unfold dstAt at he
   cases ho' : ops[j]? with
   | none=>rw [ho'] at he; cases he
   | some o'=>
    rw [ho'] at he
    exact hne (g.inj j i o' o d hj hi ho' ho he hd)
  rw [put_ne hde]
 ·exact Iff.rfl
theorem eval_put' {o : Oper} {a : Act} {dst : Option Tmp} {v : Value} {x : Operand} (h : ∀d,dst = some d->d ∉ o.looksAt ops) (hx : x ∈ o.op.operands) : (a.put dst v).eval x = a.eval x:=
 Act.eval_put fun d hd hxd=>h d hd (by
  subst hxd
  exact List.mem_append_left _ (List.mem_filterMap.2 ⟨.tmp d,by simpa using hx,rfl⟩))
theorem ob_put {i k : Nat} {o o' : Oper} {a : Act} {u : Value} (g : Good ops kd al n0 n N) (hi : i < n) (hk : k < n) (ho : ops[i]? = some o) (ho' : ops[k]? = some o') (hne : ¬ waits o k = true) (hd : ∀ds G,kd i = .call ds G->k ∉ ds) :
  Ob P ops kd al D W i o (a.put o'.dst u) ↔ Ob P ops kd al D W i o a:=by
 have hl : ∀d,o'.dst = some d->d ∉ o.looksAt ops:=fun d h1 h2=>hne (g.look i k o o' d hi hk ho ho' h1 h2)
 unfold Ob
 rw [wanted_put o a _ u hl,okOp_put o a _ u hl,execOp_put o (fun cs b=>g.sel i o cs b hi ho) a _ u hl]
 split
 ·exact Iff.rfl
 ·exact Iff.rfl
 ·rename_i ds G hkd
  refine and_congr_right fun _=>forall_congr' fun w=>imp_congr_right fun _=>?_
  have : (∀d ∈ ds,factAt ops kd d (a.put o'.dst u).tmps w) ↔ ∀d ∈ ds,factAt ops kd d a.tmps w:=
   forall_congr' fun d=>imp_congr_right fun hm=>fact_put g hk (by have:=(g.deps i ds G hi hkd d hm).1; omega) ho' (fun e=>hd ds G hkd (e ▸ hm))
  rw [this]
  unfold gives
  rw [execOp_put o (fun cs b=>g.sel i o cs b hi ho) a _ u hl]
 ·refine and_congr_right fun _=>exists_congr fun tt=>exists_congr fun ad=>exists_congr fun vo=>and_congr_right fun hop=>?_
  rw [eval_put' (x:=vo) hl (by rw [hop]; simp [Op.operands])]
 ·refine and_congr_right fun _=>exists_congr fun tt=>exists_congr fun ad=>exists_congr fun vo=>and_congr_right fun hop=>?_
  rw [eval_put' (x:=vo) hl (by rw [hop]; simp [Op.operands]),eval_put' (x:=ad) hl (by rw [hop]; simp [Op.operands])]
theorem pick1 (g : Good ops kd al n0 n N) {E : Act->Prop} {k : Nat} {ok : Oper} (hk : k < n) (hok : ops[k]? = some ok) :
  ∀(r : List Nat) (a : Act) (wh : World),r.Pairwise (· < ·)->(∀i ∈ r,i < n)->k ∈ r->(∀j,waits ok j = true->j ∉ r)->(∀ds G,kd k = .call ds G->∀d ∈ ds,d ∉ r)->a.tmps.size = N->BelD D W wh ->
   (∀j,j < n->j ∉ r->factAt ops kd j a.tmps wh)->SS P ops kd al D W n E r a->Ob P ops kd al D W k ok a
 | [],_,_,_,_,h,_,_,_,_,_,_=>by cases h
 | i :: r,a,wh,hp,hn,hm,hw,hds,hs,hb,hf,h=>by
  obtain ⟨o,ho,h1,h2⟩:=h
  by_cases e : i = k
  ·subst e
   obtain rfl : o = ok:=Option.some.inj (ho.symm.trans hok)
   exact h1
  ·have hin : i < n:=hn i sI
   have hkr : k ∈ r:=by
    rcases List.mem_cons.1 hm with h | h
    ·exact absurd h.symm e
    ·exact h
   have hir : i ∉ r:=fun h=>by
    have:=List.rel_of_pairwise_cons hp h
    omega
   have hv : ∃u w2,Val P ops kd D W n r i o a u/\Below wh.heap.size wh w2/\∀ds G,kd i = .call ds G->G w2 u:=by
    unfold Ob at h1
    unfold Val
    split at h1
    ·rename_i hq
     cases hwt : Region.wanted o (yielded ops a.tmps) with
     | true=>
      obtain ⟨v,p1,p2⟩:=h1 hwt
      exact ⟨v,wh,.inl ⟨rfl,p1,p2⟩,Below.refl _ _,fun ds G hc=>by rw [hq] at hc; cases hc⟩
     | false=>exact ⟨undef,wh,.inr ⟨rfl,rfl⟩,Below.refl _ _,fun ds G hc=>by rw [hq] at hc; cases hc⟩
    ·rename_i hq
     exact ⟨undef,wh,⟨h1,rfl⟩,Below.refl _ _,fun ds G hc=>by rw [hq] at hc; cases hc⟩
    ·rename_i ds G hq
     obtain ⟨v,w2,⟨p1,-⟩,p2⟩:=gives_ex (h1.2 wh hb fun d hd=>hf d (by have:=(g.deps i ds G hin hq d hd).1; omega) fun hm=>by
      have hlt:=(g.deps i ds G hin hq d hd).1
      rcases List.mem_cons.1 hm with h | h
      ·omega
      ·have:=List.rel_of_pairwise_cons hp h
       omega)
     refine ⟨v,w2,⟨h1.1,w2,hb.add p2,fun j hj hjr hji=>?_,p1⟩,p2,fun ds' G' hc=>?_⟩
     ·have:=hf j hj (fun hm=>by rcases List.mem_cons.1 hm with h | h; exact hji h; exact hjr h)
      unfold factAt at this ⊢
      split at this
      ·rename_i ds' G' hc
       exact fun d v hd hv=>g.last j ds' G' hc _ _ _ p2 (this d v hd hv)
      ·trivial
     ·rw [hq] at hc
      injection hc with _ hc
      exact hc ▸ p1
    ·rename_i hq
     exact ⟨undef,wh,rfl,Below.refl _ _,fun ds G hc=>by rw [hq] at hc; cases hc⟩
    ·rename_i hq
     exact ⟨undef,wh,rfl,Below.refl _ _,fun ds G hc=>by rw [hq] at hc; cases hc⟩
   obtain ⟨u,w2,hu,hb2,hG⟩:=hv
   have hrest:=h2 u hu
   have:=pick1 g hk hok r (a.put o.dst u) w2 (List.Pairwise.of_cons hp) (fun j hj=>hn j (List.mem_cons_of_mem _ hj)) hkr (fun j hj hjr=>hw j hj (List.mem_cons_of_mem _ hjr))
    (fun ds G hc d hd hdr=>hds ds G hc d hd (List.mem_cons_of_mem _ hdr)) (by rw [put_size]; exact hs) (hb.add hb2) (fun j hj hjr=>by
     by_cases hji : j = i
     ·subst hji
      unfold factAt
      split
      ·rename_i ds G hc
       intro e v he hv
       have hd : o.dst = some e:=by
        unfold dstAt at he
        rw [ho] at he
        exact he
       rw [hd,put_get (a:=a) (by rw [hs]; exact g.dst j o e hin ho hd)] at hv
       injection hv with hv
       exact hv ▸ hG ds G hc
      ·trivial
     ·rw [fact_put g hin hj ho hji]
      have:=hf j hj (fun hm=>by rcases List.mem_cons.1 hm with h | h; exact hji h; exact hjr h)
      unfold factAt at this ⊢
      split at this
      ·rename_i ds' G' hc
       exact fun d v hd hv=>g.last j ds' G' hc _ _ _ hb2 (this d v hd hv)
      ·trivial) hrest
   exact (ob_put g hk hin hok ho (fun hwt=>hw i hwt sI) (fun ds G hc hm=>hds ds G hc i hm sI)).1 this
theorem val_q {r r' : List Nat} {i : Nat} {o : Oper} {a : Act} {v : Value} (h : Val P ops kd D W n r i o a v) (hk : ∀ds G,kd i ≠ .call ds G) : Val P ops kd D W n r' i o a v:=by
 unfold Val at h ⊢
 split at h
 ·exact h
 ·exact h
 ·rename_i ds G hc; exact absurd hc (hk ds G)
 ·exact h
 ·exact h
theorem val_put {r : List Nat} {i k : Nat} {o o' : Oper} {a : Act} {u v : Value} (g : Good ops kd al n0 n N) (hi : i < n) (hk : k < n) (ho : ops[i]? = some o) (ho' : ops[k]? = some o') (hne : ¬ waits o k = true) (hc : ∀ds G,kd i ≠ .call ds G) :
  Val P ops kd D W n r i o (a.put o'.dst u) v ↔ Val P ops kd D W n r i o a v:=by
 have hl : ∀d,o'.dst = some d->d ∉ o.looksAt ops:=fun d h1 h2=>hne (g.look i k o o' d hi hk ho ho' h1 h2)
 unfold Val
 rw [wanted_put o a _ u hl,okOp_put o a _ u hl,execOp_put o (fun cs b=>g.sel i o cs b hi ho) a _ u hl]
 split
 ·exact Iff.rfl
 ·exact Iff.rfl
 ·rename_i ds G h; exact absurd h (hc ds G)
 ·exact Iff.rfl
 ·exact Iff.rfl
theorem pick2 (g : Good ops kd al n0 n N) {E : Act->Prop} {k : Nat} {ok : Oper} (hk : k < n) (hok : ops[k]? = some ok) :
  ∀(r : List Nat) (a : Act) (v : Value),r.Pairwise (· < ·)->(∀i ∈ r,i < n)->k ∈ r->(∀j,waits ok j = true->j ∉ r)->a.tmps.size = N->SS P ops kd al D W n E r a->Val P ops kd D W n (r.erase k) k ok a v ->
   SS P ops kd al D W n E (r.erase k) (a.put ok.dst v)
 | [],_,_,_,_,h,_,_,_,_=>by cases h
 | i :: r,a,v,hp,hn,hm,hw,hs,h,hV=>by
  obtain ⟨o,ho,h1,h2⟩:=h
  by_cases e : i = k
  ·subst e
   obtain rfl : o = ok:=Option.some.inj (ho.symm.trans hok)
   rw [List.erase_cons_head] at hV ⊢
   exact h2 v hV
  ·have hin : i < n:=hn i sI
   have hkr : k ∈ r:=by
    rcases List.mem_cons.1 hm with h | h
    ·exact absurd h.symm e
    ·exact h
   have hik : i < k:=List.rel_of_pairwise_cons hp hkr
   have hpr:=List.Pairwise.of_cons hp
   have hnd : r.Nodup:=hpr.imp (fun h=>by omega)
   have hdd : ∀x,o.dst = some x->ok.dst ≠ some x:=fun x h1 h2=>e (g.inj i k o ok x hin hk ho hok h1 h2)
   have hnw : ¬ waits o k = true:=fun hq=>by have:=g.back i o k ho hq; omega
   have hnw' : ¬ waits ok i = true:=fun hq=>hw i hq sI
   have her : (i :: r).erase k = i :: r.erase k:=List.erase_cons_tail (by simp [e])
   rw [her] at hV ⊢
   have hir : i ∉ r:=fun h=>by
    have:=List.rel_of_pairwise_cons hp h
    omega
   refine ⟨o,ho,(ob_put g hin hk ho hok hnw (fun ds G hc hmm=>by have:=(g.deps i ds G hin hc k hmm).1; omega)).2 h1,fun u hu=>?_⟩
   have key : Val P ops kd D W n r i o a u/\Val P ops kd D W n (r.erase k) k ok (a.put o.dst u) v:=by
    by_cases hci : ∃ds G,kd i = .call ds G
    ·obtain ⟨ds,G,hci⟩:=hci
     have hl : ∀d,ok.dst = some d->d ∉ o.looksAt ops:=fun d h1 h2=>hnw (g.look i k o ok d hin hk ho hok h1 h2)
     have hu':=hu
     unfold Val at hu'
     rw [hci] at hu'
     dsimp only at hu'
     obtain ⟨p1,w,p2,p3,p4⟩:=hu'
     rw [wanted_put o a _ v hl] at p1
     have pf : ∀j,j < n->j ∉ r->j ≠ i->factAt ops kd j a.tmps w:=fun j hj hjr hji=>by
      have:=p3 j hj (fun hm=>hjr (List.mem_of_mem_erase hm)) hji
      exact (fact_put g hk hj hok (fun hq=>hjr (hq ▸ hkr))).1 this
     have pk : factAt ops kd k (a.put ok.dst v).tmps w:=p3 k hk (fun hm=>by rw [hnd.mem_erase_iff] at hm; exact hm.1 rfl) (Ne.symm e)
     constructor
     ·unfold Val
      rw [hci]
      exact ⟨p1,w,p2,pf,p4⟩
     ·by_cases hck : ∃ds G,kd k = .call ds G
      ·obtain ⟨ds',G',hck⟩:=hck
       unfold Val at hV ⊢
       rw [hck] at hV ⊢
       dsimp only at hV ⊢
       have hl' : ∀d,o.dst = some d->d ∉ ok.looksAt ops:=fun d h1 h2=>hnw' (g.look k i ok o d hk hin hok ho h1 h2)
       rw [wanted_put ok a _ u hl']
       refine ⟨hV.1,w,p2,fun j hj hjr hjk=>?_,?_⟩
       ·by_cases hji : j = i
        ·subst hji
         unfold factAt
         rw [hci]
         intro x y hx hy
         have hd : o.dst = some x:=by
          unfold dstAt at hx
          rw [ho] at hx
          exact hx
         rw [hd,put_get (a:=a) (by rw [hs]; exact g.dst j o x hin ho hd)] at hy
         injection hy with hy
         exact hy ▸ p4
        ·rw [fact_put g hin hj ho hji]
         exact pf j hj (fun hm=>hjr (by rw [hnd.mem_erase_iff]; exact ⟨hjk,hm⟩)) hji
       ·unfold factAt at pk
        rw [hck] at pk
        obtain ⟨dk,hdk⟩:=g.dstc k ok ds' G' hk hok hck
        refine pk dk v (by unfold dstAt; rw [hok]; exact hdk) ?_
        rw [hdk]
        exact put_get (a:=a) (by rw [hs]; exact g.dst k ok dk hk hok hdk)
      ·have hck' : ∀ds G,kd k ≠ .call ds G:=fun ds G hq=>hck ⟨ds,G,hq⟩
       exact (val_put g hk hin hok ho hnw' hck').2 (val_q hV hck')
    ·have hci' : ∀ds G,kd i ≠ .call ds G:=fun ds G hq=>hci ⟨ds,G,hq⟩
     refine ⟨val_q ((val_put g hin hk ho hok hnw hci').1 hu) hci',?_⟩
     by_cases hck : ∃ds G,kd k = .call ds G
     ·obtain ⟨ds',G',hck⟩:=hck
      unfold Val at hV ⊢
      rw [hck] at hV ⊢
      dsimp only at hV ⊢
      have hl' : ∀d,o.dst = some d->d ∉ ok.looksAt ops:=fun d h1 h2=>hnw' (g.look k i ok o d hk hin hok ho h1 h2)
      rw [wanted_put ok a _ u hl']
      obtain ⟨q1,w,q2,q3,q4⟩:=hV
      refine ⟨q1,w,q2,fun j hj hjr hjk=>?_,q4⟩
      by_cases hji : j = i
      ·subst hji
       unfold factAt
       split
       ·rename_i ds G hq; exact absurd hq (hci' ds G)
       ·trivial
      ·rw [fact_put g hin hj ho hji]
       exact q3 j hj (fun hm=>by rcases List.mem_cons.1 hm with h | h; exact hji h; exact hjr h) hjk
     ·have hck' : ∀ds G,kd k ≠ .call ds G:=fun ds G hq=>hck ⟨ds,G,hq⟩
      exact (val_put g hk hin hok ho hnw' hck').2 (val_q hV hck')
   have:=pick2 g hk hok r (a.put o.dst u) v hpr (fun j hj=>hn j (List.mem_cons_of_mem _ hj)) hkr (fun j hj hjr=>hw j hj (List.mem_cons_of_mem _ hjr)) (by rw [put_size]; exact hs) (h2 u key.1) key.2
   rw [put_comm fun x h1 h2=>hdd x h2 h1]
   exact this
end
section
variable {P : Program}
theorem wr_same {w : World} {b : Nat} {t : TypeId} {cs : Array Value} (h : Blk w b t cs) : wr w b t cs = w:=by
 have : w.heap.setIfInBounds b (.cells cs t (0,0)) = w.heap:=by
  apply Array.ext_getElem?
  intro j
  by_cases e : j = b
  ·subst e
   rw [Array.getElem?_setIfInBounds_self_of_lt (Array.getElem?_eq_some_iff.1 h).1]
   exact h.symm
  ·exact Array.getElem?_setIfInBounds_ne (Ne.symm e)
 unfold wr
 rw [this]
theorem wr_wr {w : World} {b : Nat} {t : TypeId} {cs cs' : Array Value} : wr (wr w b t cs) b t cs' = wr w b t cs':=by
 unfold wr
 congr 1
 apply Array.ext_getElem?
 intro j
 by_cases e : b = j
 ·subst e
  simp [Array.getElem?_setIfInBounds]
 ·rw [Array.getElem?_setIfInBounds_ne e,Array.getElem?_setIfInBounds_ne e,Array.getElem?_setIfInBounds_ne e]
theorem setCell_wr {w : World} {b i : Nat} {t : TypeId} {cs : Array Value} {v : Value} (h : Blk w b t cs) : w.setCell ⟨b,i,none⟩ v = wr w b t (cs.setIfInBounds i v):=by
 unfold World.setCell wr
 congr 1
 apply Array.ext_getElem?
 intro j
 have hb:=(Array.getElem?_eq_some_iff.1 h).1
 by_cases e : b = j
 ·subst e
  rw [Array.getElem?_setIfInBounds_self_of_lt hb,Array.getElem?_modify]
  unfold Blk at h
  rw [h]
  simp
 ·rw [Array.getElem?_setIfInBounds_ne e,Array.getElem?_modify]
  simp [e]
def putFrom : Array Value->Nat->List Value->Array Value
 | cs,_,[]=>cs
 | cs,i,v :: vs=>putFrom (cs.setIfInBounds i v) (i + 1) vs
theorem putFrom_all : ∀(vs : List Value) (cs : Array Value) (i : Nat),i + vs.length = cs.size->(putFrom cs i vs).toList = cs.toList.take i ++ vs
 | [],cs,i,h=>by
  simp only [putFrom,List.append_nil]
  rw [List.take_of_length_le (by simp at h ⊢; omega)]
 | v :: vs,cs,i,h=>by
  simp only [putFrom]
  rw [putFrom_all vs _ (i + 1) (by simp at h ⊢; omega)]
  simp only [List.length_cons] at h
  rw [Array.toList_setIfInBounds]
  apply List.ext_getElem?
  intro k
  rcases Nat.lt_trichotomy k i with hk | hk | hk
  ·rw [List.getElem?_append_left (by simp; omega),List.getElem?_append_left (by simp; omega),List.getElem?_take_of_lt oM,List.getElem?_take_of_lt hk,List.getElem?_set_ne oM]
  ·subst hk
   rw [List.getElem?_append_left (by simp; omega),List.getElem?_take_of_lt oM,List.getElem?_append_right (by simp; omega)]
   simp only [List.length_take,Array.length_toList]
   rw [show min k cs.size = k by omega,Nat.sub_self,List.getElem?_set_self (by simp; omega)]
   rfl
  ·rw [List.getElem?_append_right (by simp; omega),List.getElem?_append_right (by simp; omega)]
   simp only [List.length_take,List.length_set,Array.length_toList]
   rw [show min i cs.size = i by omega,show min (i + 1) cs.size = i + 1 by omega,show k - i = (k - (i + 1)) + 1 by omega]
   rfl
theorem storeCells_run {b : Nat} {t : TypeId} : ∀(vs : List Value) (i : Nat) (cs : Array Value) (w : World),Blk w b t cs->i + vs.length<=cs.size->(vs.all fun c=>match c with | .agg _ | .tuple _=>false | _=>true) = true ->
  (storeCells ⟨b,0,none⟩ vs i).run P w = .ok () (wr w b t (putFrom cs i vs))
 | [],i,cs,w,h,_,_=>by
  unfold storeCells putFrom
  rw [wr_same h]
  rfl
 | v :: vs,i,cs,w,h,hl,hf=>by
  simp only [List.length_cons] at hl
  simp only [List.all_cons,Bool.and_eq_true] at hf
  have ha : (⟨b,0,none⟩ : Addr).add i = ⟨b,i,none⟩:=by
   unfold Addr.add
   split
   ·rename_i e; rw [e]
   ·simp
  have hc : w.cell? ⟨b,i,none⟩ = some (cs[i]'oM):=by
   unfold World.cell?
   unfold Blk at h
   rw [h]
   simp
  have hz : w.frozen? ⟨b,i,none⟩ = false:=by
   unfold World.frozen?
   unfold Blk at h
   rw [h]
   simp
  have hset:=setCell_wr (i:=i) (v:=v) h
  have hb' : Blk (wr w b t (cs.setIfInBounds i v)) b t (cs.setIfInBounds i v):=wr_self (Array.getElem?_eq_some_iff.1 h).1
  have ih:=storeCells_run vs (i + 1) (cs.setIfInBounds i v) _ hb' (by simp; omega) hf.2
  rw [wr_wr] at ih
  unfold storeCells putFrom
  have hst : (store ((⟨b,0,none⟩ : Addr).add i) v).run P w = .ok () (wr w b t (cs.setIfInBounds i v)):=by
   rw [ha,<-hset]
   unfold store
   cases v <;> first | (simp only [Sem.run,hc,hz]; rfl) | exact absurd hf.1 sI
  rw [Sem.run_bind,hst]
  exact ih
theorem store_run {o : Oper} {a : Act} {w : World} {tt : TypeId} {ad vo : Operand} {b m : Nat} {t : TypeId} {cs : Array Value} (hop : o.op = .store tt ad vo) (he : a.eval ad = ptr b) (hsz : tyCells P tt = some m)
  (hc : (a.eval vo).cells.size = m) (hf : flatB (a.eval vo) = true) (hB : Blk w b t cs) (hcs : cs.size = m) : (execOp a.eval o).run P w = .ok .skip (wr w b t (a.eval vo).cells):=by
 unfold execOp
 rw [hop]
 dsimp only
 have hi : ∃i,P.info? tt = some i/\i.size = m:=by
  unfold tyCells at hsz
  cases h : P.info? tt with
  | none=>rw [h] at hsz; cases hsz
  | some i=>rw [h] at hsz; injection hsz with hsz; exact ⟨i,rfl,hsz⟩
 obtain ⟨i,hi1,hi2⟩:=hi
 have hpf : putFrom cs 0 (a.eval vo).cells.toList = (a.eval vo).cells:=by
  apply Array.toList_inj.1
  rw [putFrom_all _ _ _ (by simp; omega)]
  simp
 have h1:=storeCells_run (P:=P) (t:=t) (a.eval vo).cells.toList 0 cs w hB (by simp; omega) (by unfold flatB at hf; rw [<-Array.all_toList] at hf; exact hf)
 rw [hpf] at h1
 have h2 : (Instr.storeAt tt (a.eval ad) (a.eval vo)).run P w = .ok () (wr w b t (a.eval vo).cells):=by
  rw [he]
  have hs : (sizeOf tt).run P w = .ok m w:=by
   have h3 : (typeInfo tt).run P w = .ok i w:=by
    show (match P.info? tt with | some i=>pure i | none=>stuck "no such type" : Sem TypeInfo).run P w = _
    rw [hi1]
    rfl
   unfold sizeOf
   rw [Sem.run_bind,h3,<-hi2]
   rfl
  have h0 : (Instr.sureAddr (ptr b)).run P w = .ok ⟨b,0,none⟩ w:=rfl
  unfold Instr.storeAt
  rw [Sem.run_bind,h0]
  show (storeVar tt ⟨b,0,none⟩ (a.eval vo)).run P w = _
  unfold storeVar
  rw [Sem.run_bind,hs]
  show (if (a.eval vo).cells.size ≠ m then _ else _ : Sem Unit).run P w = _
  rw [if_neg (by rw [hc]; simp)]
  exact h1
 rw [Sem.run_bind,h2]
 rfl
end
section
variable {P : Program} {ops : Array Oper} {kd : Nat->Kd} {al : Nat->Bool} {D : Nat->Prop} {W : World} {n N : Nat}
def StAt (ops : Array Oper) (kd : Nat->Kd) (n0 : Nat) (j : Nat) (a : Act) (w : World) : Prop:=
 ∀ai t m,kd j = .store ai t m->∀o tt ad vo,ops[j]? = some o->o.op = .store tt (.tmp ad) vo->∃b,a.tmps[ad]? = some (ptr b)/\n0<=b/\Blk w b t (a.eval vo).cells
def EsAt (ops : Array Oper) (kd : Nat->Kd) (j : Nat) (a : Act) (w : World) : Prop:=
 ∀b t m,kd j = .es b t m->∀o tt ad vo,ops[j]? = some o->o.op = .store tt ad vo->Blk w b t (a.eval vo).cells
def FarAt (ops : Array Oper) (al : Nat->Bool) (n : Nat) (p : Nat->Prop) (T : Array Value) : Prop:=
 ∀i j,i < n->j < n->i ≠ j->al i = true->al j = true->p i->p j->∀d e,dstAt ops i = some d->dstAt ops j = some e->T[d]? ≠ T[e]?
structure SI (P : Program) (ops : Array Oper) (kd : Nat->Kd) (al : Nat->Bool) (D : Nat->Prop) (W : World) (n N : Nat) (E : Act->Prop) (ds : List Deferred) (L : Array Bool) (T : Array Value) (w : World) : Prop where
 size : T.size = N
 bel : BelD D W w
 fact : ∀j,j < n->L[j]? = some true->factAt ops kd j T w
 sto : ∀j,j < n->L[j]? = some true->StAt ops kd W.heap.size j ⟨T,ds⟩ w
 far : FarAt ops al n (fun i=>L[i]? = some true) T
 est : ∀j,j < n->L[j]? = some true->EsAt ops kd j ⟨T,ds⟩ w
 dt : ∀j b t m,j < n->kd j = .es b t m->b < W.heap.size/\D b/\∃cs,Blk w b t cs/\cs.size = m
 nes : (∀j,j < n->L[j]? = some true->∀b t m,kd j ≠ .es b t m)->Below W.heap.size W w
 rem : ∃r : List Nat,r.Pairwise (· < ·)/\(∀i ∈ r,i < n)/\(∀i,i < n->(i ∈ r ↔ L[i]? ≠ some true))/\SS P ops kd al D W n E r ⟨T,ds⟩
theorem listed_set {L : Array Bool} {i j : Nat} (hne : j ≠ i) (h : (L.setIfInBounds i true)[j]? = some true) : L[j]? = some true:=by
 rwa [Array.getElem?_setIfInBounds_ne (Ne.symm hne)] at h
theorem rem_set {L : Array Bool} {i : Nat} {r : List Nat} (hnd : r.Nodup) (hi : i < L.size) (hr : ∀j,j < n->(j ∈ r ↔ L[j]? ≠ some true)) : ∀j,j < n->(j ∈ r.erase i ↔ (L.setIfInBounds i true)[j]? ≠ some true):=by
 intro j hj
 rw [hnd.mem_erase_iff]
 by_cases hji : j = i
 ·subst hji
  rw [Array.getElem?_setIfInBounds_self_of_lt hi]
  simp
 ·rw [Array.getElem?_setIfInBounds_ne (Ne.symm hji)]
  exact ⟨fun h=>(hr j hj).1 h.2,fun h=>⟨hji,(hr j hj).2 h⟩⟩
theorem SI.step (g : Good ops kd al W.heap.size n N) {E : Act->Prop} {Q : Exit->Act->World->Prop} {ds : List Deferred} {i : Nat} {o : Oper} (ho : ops[i]? = some o) (hi : i < n) : StepAt P ops Q ds (SI P ops kd al D W n N E ds) i o:=by
 intro L T w hL hd hcl ⟨hs,hb,hf,hst,hfar,hest,hdt,hnes,r,hp,hn,hr,h⟩ K hK
 have hir : i ∈ r:=(hr i hi).2 (by rw [hL]; simp)
 have hw : ∀j,waits o j = true->j ∉ r:=fun j hj hm=>(hr j (hn j hm)).1 hm (hd j hj)
 have hdl : ∀ds' G,kd i = .call ds' G->∀d ∈ ds',L[d]? = some true:=fun ds' G hc d hdm=>(g.deps i ds' G hi hc d hdm).2 o L ho (fun k hk=>hd k hk) hcl
 have hds : ∀ds' G,kd i = .call ds' G->∀d ∈ ds',d ∉ r:=fun ds' G hc d hdm hm=>(hr d (hn d hm)).1 hm (hdl ds' G hc d hdm)
 have hdone : ∀j,j < n->j ∉ r->L[j]? = some true:=fun j hj hjr=>Classical.byContradiction fun hq=>hjr ((hr j hj).2 hq)
 have hob:=pick1 (a:=⟨T,ds⟩) g hi ho r w hp hn hir hw hds hs hb (fun j hj hjr=>hf j hj (hdone j hj hjr)) h
 have hnd : r.Nodup:=hp.imp (fun h=>by omega)
 have hLs:=(Array.getElem?_eq_some_iff.1 hL).1
 have hni : ∀j,L[j]? = some true->j ≠ i:=fun j hj e=>by rw [e,hL] at hj; cases hj
 have keep : ∀j w',j < n->L[j]? = some true->Below w.heap.size w w'->factAt ops kd j T w':=fun j w' hj hjl hbw=>by
  have:=hf j hj hjl
  unfold factAt at this ⊢
  split at this
  ·rename_i ds' G' hc
   exact fun d v hd hv=>g.last j ds' G' hc _ _ _ hbw (this d v hd hv)
  ·trivial
 have boxed : ∀j d v,j < n->L[j]? = some true->al j = true->dstAt ops j = some d->T[d]? = some v->∃b,v = ptr b/\b < w.heap.size:=fun j d v hj hjl ha hdj hv=>by
  obtain ⟨t,m,hk⟩:=g.alk j ha
  have:=hf j hj hjl
  unfold factAt at this
  rw [hk] at this
  obtain ⟨b,cs,h1,-,h3,-⟩:=this d v hdj hv
  exact ⟨b,h1,(Array.getElem?_eq_some_iff.1 h3).1⟩
 have next : ∀v w',Below w.heap.size w w'->Val P ops kd D W n (r.erase i) i o ⟨T,ds⟩ v->(∀ds' G,kd i = .call ds' G->G w' v)->(al i = true->∃b,v = ptr b/\w.heap.size<=b)->(∀ai t m,kd i ≠ .store ai t m)->(∀b t m,kd i ≠ .es b t m)->K ((⟨T,ds⟩ : Act).put o.dst v) w':=fun v w' hbw hv hg hfr hns hnes2=>by
  have hput : (⟨T,ds⟩ : Act).put o.dst v = ⟨((⟨T,ds⟩ : Act).put o.dst v).tmps,ds⟩:=by cases o.dst <;> rfl
  rw [hput]
  refine hK _ w' ⟨by rw [put_size]; exact hs,hb.add hbw,?_,?_,?_,?_,fun j b t m hj hk=>?_,fun hno=>?_,r.erase i,hp.sublist List.erase_sublist,fun j hj=>hn j (List.mem_of_mem_erase hj),rem_set hnd hLs hr,?_⟩
  ·intro j hj hjl
   by_cases hji : j = i
   ·subst hji
    unfold factAt
    split
    ·rename_i ds' G hc
     intro x y hx hy
     have hd : o.dst = some x:=by
      unfold dstAt at hx
      rw [ho] at hx
      exact hx
     rw [hd,put_get (a:=⟨T,ds⟩) (by show x < T.size; rw [hs]; exact g.dst j o x hi ho hd)] at hy
     injection hy with hy
     exact hy ▸ hg ds' G hc
    ·trivial
   ·exact (fact_put (a:=⟨T,ds⟩) (u:=v) g hi hj ho hji).2 (keep j w' hj (listed_set hji hjl) hbw)
  ·intro j hj hjl ai t m hk oj tt ad vo hoj hop
   have hji : j ≠ i:=fun e=>hns ai t m (e ▸ hk)
   obtain ⟨b,h1,h2,h3⟩:=hst j hj (listed_set hji hjl) ai t m hk oj tt ad vo hoj hop
   have hl : ∀d,o.dst = some d->d ∉ oj.looksAt ops:=fun d h1 h2=>by
    have:=hcl j oj hoj (listed_set hji hjl) i (g.look j i oj o d hj hi hoj ho h1 h2)
    rw [hL] at this
    cases this
   have e1:=eval_put' (a:=⟨T,ds⟩) (v:=v) (x:=.tmp ad) hl (by rw [hop]; simp [Op.operands])
   have e2:=eval_put' (a:=⟨T,ds⟩) (v:=v) (x:=vo) hl (by rw [hop]; simp [Op.operands])
   have had : ((⟨T,ds⟩ : Act).put o.dst v).tmps[ad]? = T[ad]?:=by
    cases ho2 : o.dst with
    | none=>rfl
    | some d=>
     refine put_ne fun e=>hl d ho2 ?_
     subst e
     exact List.mem_append_left _ (List.mem_filterMap.2 ⟨.tmp d,by rw [hop]; simp [Op.operands],rfl⟩)
   refine ⟨b,had.trans h1,h2,?_⟩
   have:=h3.below hbw
   rw [<-hput,e2]
   exact this
  ·intro i' j' hi' hj' hne ha ha' hl hl' d e hd he heq
   have go : ∀j' e,j' < n->j' ≠ i->al j' = true->L[j']? = some true->dstAt ops j' = some e->al i = true->∀d,dstAt ops i = some d->((⟨T,ds⟩ : Act).put o.dst v).tmps[d]? ≠ ((⟨T,ds⟩ : Act).put o.dst v).tmps[e]?:=fun j' e hj' hne ha' hl' he ha d hd heq=>by
    obtain ⟨b,hb1,hb2⟩:=hfr ha
    have hod : o.dst = some d:=by
     unfold dstAt at hd
     rw [ho] at hd
     exact hd
    have hde : d ≠ e:=by
     rintro rfl
     unfold dstAt at he
     cases ho' : ops[j']? with
     | none=>rw [ho'] at he; cases he
     | some o'=>
      rw [ho'] at he
      exact hne (g.inj j' i o' o d hj' hi ho' ho he hod)
    rw [hod,put_get (a:=⟨T,ds⟩) (by show d < T.size; rw [hs]; exact g.dst i o d hi ho hod),put_ne hde] at heq
    obtain ⟨c,hc1,hc2⟩:=boxed j' e v hj' hl' ha' he heq.symm
    rw [hb1] at hc1
    unfold ptr at hc1
    injection hc1 with hc1
    injection hc1 with hc1
    injection hc1 with hc1
    omega
   by_cases h1 : i' = i
   ·subst h1
    exact go j' e hj' (Ne.symm hne) ha' (listed_set (Ne.symm hne) hl') he ha d hd heq
   ·by_cases h2 : j' = i
    ·subst h2
     exact go i' d hi' hne ha (listed_set hne hl) hd ha' e he heq.symm
    ·have keepT : ∀k x,k ≠ i->k < n->dstAt ops k = some x->((⟨T,ds⟩ : Act).put o.dst v).tmps[x]? = T[x]?:=fun k x hk hkn hx=>by
      cases ho2 : o.dst with
      | none=>rfl
      | some y=>
       refine put_ne ?_
       rintro rfl
       unfold dstAt at hx
       cases ho' : ops[k]? with
       | none=>rw [ho'] at hx; cases hx
       | some o'=>
        rw [ho'] at hx
        exact hk (g.inj k i o' o y hkn hi ho' ho hx ho2)
     rw [keepT i' d h1 hi' hd,keepT j' e h2 hj' he] at heq
     exact hfar i' j' hi' hj' hne ha ha' (listed_set h1 hl) (listed_set h2 hl') d e hd he heq
  ·intro j hj hjl b t m hk oj tt ad vo hoj hop
   have hji : j ≠ i:=fun e=>hnes2 b t m (e ▸ hk)
   have hl : ∀d,o.dst = some d->d ∉ oj.looksAt ops:=fun d h1 h2=>by
    have:=hcl j oj hoj (listed_set hji hjl) i (g.look j i oj o d hj hi hoj ho h1 h2)
    rw [hL] at this
    cases this
   have e2:=eval_put' (a:=⟨T,ds⟩) (v:=v) (x:=vo) hl (by rw [hop]; simp [Op.operands])
   have:=(hest j hj (listed_set hji hjl) b t m hk oj tt ad vo hoj hop).below hbw
   rw [<-hput,e2]
   exact this
  ·obtain ⟨h1,h2,cs,h3,h4⟩:=hdt j b t m hj hk
   exact ⟨h1,h2,cs,h3.below hbw,h4⟩
  ·refine nx (hnes fun j hj hjl=>hno j hj (listed_mono hjl)) hbw
  ·rw [<-hput]
   exact pick2 g hi ho r ⟨T,ds⟩ v hp hn hir hw hs h hv
 have nal : (∀ds' G,kd i ≠ .call ds' G)->al i = true->∃b,(undef : Value) = ptr b/\w.heap.size<=b:=fun hc ha=>by
  obtain ⟨t,m,hk⟩:=g.alk i ha
  exact absurd hk (hc _ _)
 unfold Ob at hob
 split at hob
 ·rename_i hq
  have hnc : ∀ds' G,kd i ≠ .call ds' G:=fun ds' G hc=>by rw [hq] at hc; cases hc
  have hno : ∀w' v,∀ds' G,kd i = .call ds' G->(G : World->Value->Prop) w' v:=fun w' v ds' G hc=>absurd hc (hnc ds' G)
  have hns : ∀ai t m,kd i ≠ .store ai t m:=fun ai t m hc=>by rw [hq] at hc; cases hc
  have hne : ∀b t m,kd i ≠ .es b t m:=fun b t m hc=>by rw [hq] at hc; cases hc
  have hna : ∀v : Value,al i = true->∃b,v = ptr b/\w.heap.size<=b:=fun v ha=>by
   obtain ⟨t,m,hk⟩:=g.alk i ha
   exact absurd hk (hnc _ _)
  by_cases hwt : Region.wanted o (yielded ops T) = true
  ·rw [if_pos hwt]
   obtain ⟨v,h1,h2⟩:=hob hwt
   unfold Oper.wp
   rw [tame_still (tame_op h1) h2 fun hrd=>(hnes fun j hj hjl b t m hk=>by
    have:=g.rd i o j b t m hi hq ho hrd hj hk L hcl hjl
    rw [hL] at this
    cases this).block]
   exact next v w (Below.refl _ _) (by unfold Val; rw [hq]; exact .inl ⟨hwt,h1,h2⟩) (hno w v) (hna v) hns hne
  ·rw [if_neg hwt]
   exact next undef w (Below.refl _ _) (by unfold Val; rw [hq]; exact .inr ⟨by simpa using hwt,rfl⟩) (hno w undef) (hna undef) hns hne
 ·rename_i hq
  rw [if_neg (by rw [hob]; simp)]
  exact next undef w (Below.refl _ _) (by unfold Val; rw [hq]; exact ⟨hob,rfl⟩) (fun ds' G hc=>by rw [hq] at hc; cases hc) (nal fun ds' G hc=>by rw [hq] at hc; cases hc) (fun ai t m hc=>by rw [hq] at hc; cases hc) (fun ai t m hc=>by rw [hq] at hc; cases hc)
 ·rename_i ds' G hq
  rw [if_pos hob.1]
  refine gives_wp (hob.2 w hb fun d hdm=>hf d (by have:=(g.deps i ds' G hi hq d hdm).1; omega) (hdl ds' G hq d hdm)) fun v w' hg hbw=>?_
  refine next v w' hbw ?_ (fun ds2 G2 hc=>by
   rw [hq] at hc
   injection hc with _ hc
   exact hc ▸ hg.1) hg.2 (fun ai t m hc=>by rw [hq] at hc; cases hc) (fun ai t m hc=>by rw [hq] at hc; cases hc)
  unfold Val
  rw [hq]
  refine ⟨hob.1,w',hb.add hbw,fun j hj hjr hji=>?_,hg.1⟩
  exact keep j w' hj (hdone j hj fun hm=>hjr (by rw [hnd.mem_erase_iff]; exact ⟨hji,hm⟩)) hbw
 ·rename_i ai t m hq
  rw [if_pos hob.1]
  obtain ⟨-,tt,ad,vo,hop,hsz,hc,hfl⟩:=hob
  obtain ⟨o',tt',ad',vo',ho',hop',hdn,hain,hda,hal,hkai,hwa⟩:=g.sto i ai t m hi hq
  obtain rfl : o = o':=Option.some.inj (ho.symm.trans ho')
  rw [hop] at hop'
  injection hop' with e1 e2 e3
  injection e2 with e2
  subst e1 e2 e3
  have hLai:=hd ai hwa
  have hbx : ∃b cs,T[ad]? = some (ptr b)/\W.heap.size<=b/\Blk w b t cs/\cs.size = m:=by
   have:=hf ai hain hLai
   unfold factAt at this
   rw [hkai] at this
   have hlt : ad < T.size:=by
    unfold dstAt at hda
    cases ho2 : ops[ai]? with
    | none=>rw [ho2] at hda; cases hda
    | some o2=>rw [ho2] at hda; rw [hs]; exact g.dst ai o2 ad hain ho2 hda
   obtain ⟨b,cs,h1,h2,h3,h4⟩:=this ad T[ad] hda (Array.getElem?_eq_getElem hlt)
   exact ⟨b,cs,by rw [Array.getElem?_eq_getElem hlt,h1],h2,h3,h4⟩
  obtain ⟨b,cs,hTa,hnb,hB,hcs⟩:=hbx
  have hea : (⟨T,ds⟩ : Act).eval (.tmp ad) = ptr b:=by
   show T.getD ad undef = ptr b
   rw [Array.getD_eq_getD_getElem?,hTa]
   rfl
  have hrun:=store_run (P:=P) (a:=⟨T,ds⟩) (w:=w) hop hea hsz hc hfl hB hcs
  unfold Oper.wp
  rw [hrun]
  show K ((⟨T,ds⟩ : Act).put o.dst undef) _
  rw [hdn]
  show K ⟨T,ds⟩ _
  have hblt:=(Array.getElem?_eq_some_iff.1 hB).1
  refine hK T _ ⟨hs,hb.write (.inl hnb),?_,?_,?_,fun j hj hjl bj tj mj hk oj ttj adj voj hoj hopj=>?_,fun j bj tj mj hj hk=>?_,fun hno=>wr_below (hnes fun j hj hjl=>hno j hj (listed_mono hjl)) hnb,r.erase i,hp.sublist List.erase_sublist,fun j hj=>hn j (List.mem_of_mem_erase hj),rem_set hnd hLs hr,?_⟩
  ·intro j hj hjl
   by_cases hji : j = i
   ·subst hji
    unfold factAt
    rw [hq]
    trivial
   ·have:=hf j hj (listed_set hji hjl)
    unfold factAt at this ⊢
    split at this
    ·rename_i ds' G' hcj
     exact fun d v hd hv=>g.lastw j ds' G' i ai t m hcj hq w v b cs _ hnb hB hcs (by rw [hc,hcs]) (this d v hd hv)
    ·trivial
  ·intro j hj hjl aj tj mj hkj oj ttj adj voj hoj hopj
   by_cases hji : j = i
   ·subst hji
    obtain rfl : o = oj:=Option.some.inj (ho.symm.trans hoj)
    rw [hq] at hkj
    injection hkj with f1 f2 f3
    subst f1 f2 f3
    rw [hop] at hopj
    injection hopj with f1 f2 f3
    injection f2 with f2
    subst f1 f2 f3
    exact ⟨b,hTa,hnb,wr_self hblt⟩
   ·have hjl':=listed_set hji hjl
    obtain ⟨bj,h1,h2,h3⟩:=hst j hj hjl' aj tj mj hkj oj ttj adj voj hoj hopj
    refine ⟨bj,h1,h2,(wr_ne ?_).trans h3⟩
    intro e
    subst e
    obtain ⟨oj',ttj',adj',voj',hoj',hopj',-,hajn,hdaj,halj,-,hwaj⟩:=g.sto j aj tj mj hj hkj
    obtain rfl : oj = oj':=Option.some.inj (hoj.symm.trans hoj')
    rw [hopj] at hopj'
    injection hopj' with f1 f2 f3
    injection f2 with f2
    subst f1 f2 f3
    have hne : ai ≠ aj:=fun e=>hji (g.sinj j i aj tj mj t m hkj (e ▸ hq))
    exact hfar ai aj hain hajn hne hal halj hLai (hcl j oj hoj hjl' aj hwaj) ad adj hda hdaj (hTa.trans h1.symm)
  ·intro i' j' hi' hj' hne ha ha' hl hl' d e hd he
   have hnai : ∀k,al k = true->k ≠ i:=fun k hk e=>by
    obtain ⟨t',m',hkk⟩:=g.alk k hk
    rw [e,hq] at hkk
    cases hkk
   exact hfar i' j' hi' hj' hne ha ha' (listed_set (hnai i' ha) hl) (listed_set (hnai j' ha') hl') d e hd he
  ·have hji : j ≠ i:=fun e=>by rw [e,hq] at hk; cases hk
   obtain ⟨h1,-,-⟩:=hdt j bj tj mj hj hk
   exact (wr_ne oM).trans (hest j hj (listed_set hji hjl) bj tj mj hk oj ttj adj voj hoj hopj)
  ·obtain ⟨h1,h2,cs',h3,h4⟩:=hdt j bj tj mj hj hk
   exact ⟨h1,h2,cs',(wr_ne oM).trans h3,h4⟩
  ·have:=pick2 g hi ho r ⟨T,ds⟩ undef hp hn hir hw hs h (by unfold Val; rw [hq])
   rw [hdn] at this
   exact this
 ·rename_i b t m hq
  rw [if_pos hob.1]
  obtain ⟨-,tt,ad,vo,hop,hea,hsz,hc,hfl⟩:=hob
  obtain ⟨o',tt',ad',vo',ho',hop',hdn⟩:=g.es i b t m hi hq
  obtain rfl : o = o':=Option.some.inj (ho.symm.trans ho')
  obtain ⟨hbW,hDb,cs,hB,hcs⟩:=hdt i b t m hi hq
  have hrun:=store_run (P:=P) (a:=⟨T,ds⟩) (w:=w) hop hea hsz hc hfl hB hcs
  unfold Oper.wp
  rw [hrun]
  show K ((⟨T,ds⟩ : Act).put o.dst undef) _
  rw [hdn]
  show K ⟨T,ds⟩ _
  have hblt:=(Array.getElem?_eq_some_iff.1 hB).1
  have hnb : ∀j bj tj mj,j < n->kd j = .es bj tj mj->j ≠ i->bj ≠ b:=fun j bj tj mj _ hk hji e=>hji (g.einj j i b tj mj t m (e ▸ hk) hq)
  refine hK T _ ⟨hs,hb.write (.inr hDb),?_,?_,?_,fun j hj hjl bj tj mj hk oj ttj adj voj hoj hopj=>?_,fun j bj tj mj hj hk=>?_,fun hno=>?_,r.erase i,hp.sublist List.erase_sublist,fun j hj=>hn j (List.mem_of_mem_erase hj),rem_set hnd hLs hr,?_⟩
  ·intro j hj hjl
   by_cases hji : j = i
   ·subst hji
    unfold factAt
    rw [hq]
    trivial
   ·have:=hf j hj (listed_set hji hjl)
    unfold factAt at this ⊢
    split at this
    ·rename_i ds' G' hcj
     exact fun d v hd hv=>g.laste j ds' G' i b t m hcj hq w v b cs _ (Nat.zero_le _) hB hcs (by rw [hc,hcs]) (this d v hd hv)
    ·trivial
  ·intro j hj hjl aj tj mj hkj oj ttj adj voj hoj hopj
   have hji : j ≠ i:=fun e=>by rw [e,hq] at hkj; cases hkj
   obtain ⟨bj,h1,h2,h3⟩:=hst j hj (listed_set hji hjl) aj tj mj hkj oj ttj adj voj hoj hopj
   exact ⟨bj,h1,h2,(wr_ne oM).trans h3⟩
  ·intro i' j' hi' hj' hne ha ha' hl hl' d e hd he
   have hnai : ∀k,al k = true->k ≠ i:=fun k hk e=>by
    obtain ⟨t',m',hkk⟩:=g.alk k hk
    rw [e,hq] at hkk
    cases hkk
   exact hfar i' j' hi' hj' hne ha ha' (listed_set (hnai i' ha) hl) (listed_set (hnai j' ha') hl') d e hd he
  ·by_cases hji : j = i
   ·subst hji
    obtain rfl : o = oj:=Option.some.inj (ho.symm.trans hoj)
    rw [hq] at hk
    injection hk with f1 f2 f3
    subst f1 f2 f3
    rw [hop] at hopj
    injection hopj with f1 f2 f3
    subst f1 f2 f3
    exact wr_self hblt
   ·exact (wr_ne (hnb j bj tj mj hj hk hji)).trans (hest j hj (listed_set hji hjl) bj tj mj hk oj ttj adj voj hoj hopj)
  ·by_cases hji : j = i
   ·subst hji
    rw [hq] at hk
    injection hk with f1 f2 f3
    subst f1 f2 f3
    exact ⟨hbW,hDb,_,wr_self hblt,hc⟩
   ·obtain ⟨h1,h2,cs',h3,h4⟩:=hdt j bj tj mj hj hk
    exact ⟨h1,h2,cs',(wr_ne (hnb j bj tj mj hj hk hji)).trans h3,h4⟩
  ·exact absurd hq (hno i hi (Array.getElem?_setIfInBounds_self_of_lt hLs) b t m)
  ·have:=pick2 g hi ho r ⟨T,ds⟩ undef hp hn hir hw hs h (by unfold Val; rw [hq])
   rw [hdn] at this
   exact this
end
/-! ### The walk as a text says it -/
abbrev Facts:=List (Nat × (World->Value->Prop) × Value)
def memB : List Nat->Nat->Bool
 | [],_=>false
 | d :: ds,i=>match Nat.beq d i with
  | true=>true
  | false=>memB ds i
def FD (ds : List Nat) : Facts->World->Prop->Prop
 | [],_,X=>X
 | (i,G,v) :: r,w,X=>match memB ds i with
  | true=>G w v->FD ds r w X
  | false=>FD ds r w X
def FA : Facts->World->Prop->Prop
 | [],_,X=>X
 | [(_,G,v)],w,X=>G w v->X
 | (_,G,v) :: q :: r,w,X=>G w v->FA (q :: r) w X
abbrev Conts:=List (Value × TypeId × Array Value)
def BlkV (w : World) (v : Value) (t : TypeId) (cs : Array Value) : Prop:=∀b,v = ptr b->Blk w b t cs
def FC : Conts->World->Prop->Prop
 | [],_,X=>X
 | (v,t,cs) :: r,w,X=>BlkV w v t cs->FC r w X
abbrev Boxes:=List (Nat × Nat)
def FN : Boxes->Prop->Prop
 | [],X=>X
 | p :: r,X=>(∀q ∈ r,p.2 ≠ q.2)->FN r X
class DropR (n : Nat) (l : List Oper) (t : outParam (List Oper)) : Prop where
 eq : l.drop n = t
instance {l : List Oper} : DropR 0 l l:=⟨rfl⟩
instance {n : Nat} {o : Oper} {l t : List Oper} [h : DropR n l t] : DropR (n + 1) (o :: l) t:=⟨h.eq⟩
inductive PK where
 | skip
 | call (ds : List Nat) (G : World->Value->Prop)
 | al (t : TypeId) (m : Nat)
 | st (ai : Nat) (t : TypeId) (m : Nat)
 | es (b : Nat) (t : TypeId) (m : Nat)
abbrev Plan:=List (Nat × PK)
def qrun (P : Program) (ops : Array Oper) (W : World) (K : Act->Prop) : List Oper->Act->Prop
 | [],a=>K a
 | o :: r,a=>(Region.wanted o (yielded ops a.tmps) = true->okOp P a.eval o = true)/\if Region.wanted o (yielded ops a.tmps) then o.still P a W (qrun P ops W K r) else qrun P ops W K r (a.put o.dst undef)
def serC (P : Program) (ops : Array Oper) (W : World) (R : World->Prop) (i : Nat) (F : Facts) (B : Boxes) (C : Conts) (next : Facts->Boxes->Conts->List Oper->Act->Prop) : List Oper->PK->Act->Prop
 | [],_,_=>False
 | o :: r,.skip,a=>Region.wanted o (yielded ops a.tmps) = false/\next F B C r (a.put o.dst undef)
 | o :: r,.call ds G,a=>(Region.wanted o (yielded ops a.tmps) = true/\∀w,R w->FD ds F w (gives P o a w G))/\∀v,(∃w,R w/\G w v)->next (F ++ [(i,G,v)]) B C r (a.put o.dst v)
 | o :: r,.al t m,a=>(Region.wanted o (yielded ops a.tmps) = true/\∀w,R w->gives P o a w fun w2 v=>v = ptr w.heap.size/\∃cs,Blk w2 w.heap.size t cs/\cs.size = m)/\∀b,W.heap.size<=b->next F (B ++ [(i,b)]) C r (a.put o.dst (ptr b))
 | o :: r,.st _ t m,a=>Region.wanted o (yielded ops a.tmps) = true/\∃tt ad vo,o.op = .store tt (.tmp ad) vo/\tyCells P tt = some m/\(a.eval vo).cells.size = m/\flatB (a.eval vo) = true/\next F B (C ++ [(a.eval (.tmp ad),t,(a.eval vo).cells)]) r a
 | o :: r,.es b t m,a=>Region.wanted o (yielded ops a.tmps) = true/\∃tt ad vo,o.op = .store tt ad vo/\a.eval ad = ptr b/\tyCells P tt = some m/\(a.eval vo).cells.size = m/\flatB (a.eval vo) = true/\next F B (C ++ [(ptr b,t,(a.eval vo).cells)]) r a
def ser (P : Program) (ops : Array Oper) (W : World) (R : World->Prop) (E : Act->World->Prop) : Nat->Plan->List Oper->Facts->Boxes->Conts->Act->Prop
 | _,[],l,F,B,C,a=>qrun P ops W (fun a=>∀w,R w->FA F w (FC C w (FN B (E a w)))) l a
 | c,(i,p) :: pl,l,F,B,C,a=>qrun P ops W (fun a=>serC P ops W R i F B C (fun F B C r a=>ser P ops W R E (i + 1) pl r F B C a) (l.drop (i - c)) p a) (l.take (i - c)) a
def kdK (n0 : Nat) : PK->Kd
 | .skip=>.skip
 | .call ds G=>.call ds G
 | .al t m=>.call [] (Boxed n0 t m)
 | .st ai t m=>.store ai t m
 | .es b t m=>.es b t m
def kdOf (n0 : Nat) : Plan->Nat->Kd
 | [],_=>.q
 | (i,p) :: pl,j=>match Nat.beq i j with
  | true=>kdK n0 p
  | false=>kdOf n0 pl j
def isAl : PK->Bool
 | .al _ _=>true
 | _=>false
def alOf : Plan->Nat->Bool
 | [],_=>false
 | (i,p) :: pl,j=>match Nat.beq i j with
  | true=>isAl p
  | false=>alOf pl j
def planAsc (n : Nat) : Nat->Plan->Bool
 | _,[]=>true
 | c,(i,_) :: pl=>decide (c<=i) && decide (i < n) && planAsc n (i + 1) pl
def rchs (ops : Array Oper) : Nat->Nat->Nat->Bool
 | 0,_,_=>false
 | f + 1,i,d=>match ops[i]? with
  | none=>false
  | some o=>o.after.any fun e=>Region.binds .any e && (e.on == d || rchs ops f e.on d)
def noSel : Op->Bool
 | .select _ _=>false
 | _=>true
def headOk (ops : Array Oper) (n N : Nat) : Bool:=
 (List.range n).all fun i=>match ops[i]? with
  | none=>false
  | some o=>(match o.dst with | some d=>decide (d < N) | none=>true) && noSel o.op && (List.range n).all fun j=>match (ops[j]?).bind (·.dst) with
   | none=>true
   | some d=>(!(o.looksAt ops).contains d || waits o j) && (i == j || o.dst != some d)
def alIs (ai : Nat) (t : TypeId) (m : Nat) : Plan->Bool
 | []=>false
 | (i,p) :: pl=>match Nat.beq i ai with
  | true=>match p with
   | .al t' m'=>t' == t && m' == m
   | _=>false
  | false=>alIs ai t m pl
def noSt (ai : Nat) : Plan->Bool
 | []=>true
 | (_,.st aj _ _) :: pl=>!(ai == aj) && noSt ai pl
 | (_,_) :: pl=>noSt ai pl
def hasI (i : Nat) : Plan->Bool
 | []=>false
 | (j,_) :: pl=>i == j || hasI i pl
def pkOk (ops : Array Oper) (n : Nat) (full : Plan) : Plan->Bool
 | []=>true
 | (_,.skip) :: pl=>pkOk ops n full pl
 | (i,.call ds _) :: pl=>(match dstAt ops i with | some _=>true | none=>false) && ds.all (fun d=>rchs ops 5 i d) && pkOk ops n full pl
 | (i,.al _ _) :: pl=>(match dstAt ops i with | some _=>true | none=>false) && pkOk ops n full pl
 | (i,.st ai t m) :: pl=>(match ops[i]? with
  | none=>false
  | some o=>waits o ai && o.dst.isNone && match o.op with
   | .store _ (.tmp ad) _=>dstAt ops ai == some ad
   | _=>false) && decide (ai < n) && alIs ai t m full && noSt ai pl && pkOk ops n full pl
 | (i,.es _ _ _) :: pl=>(match ops[i]? with
  | none=>false
  | some o=>o.dst.isNone && match o.op with
   | .store _ _ _=>true
   | _=>false) && (List.range n).all (fun k=>match ops[k]? with
  | none=>true
  | some o=>!readsOp o || hasI k full || rchs ops 5 i k) && pkOk ops n full pl
def serB (ops : Array Oper) (n N : Nat) (pl : Plan) : Bool:=edgesBack ops && headOk ops n N && planAsc n 0 pl && pkOk ops n pl pl
def LastsWs (n0 : Nat) (G : World->Value->Prop) : Plan->Prop
 | []=>True
 | (_,.st _ t m) :: pl=>LastsW n0 t m G/\LastsWs n0 G pl
 | (_,.es _ t m) :: pl=>LastsW 0 t m G/\LastsWs n0 G pl
 | (_,_) :: pl=>LastsWs n0 G pl
def LastsPl (n0 : Nat) (full : Plan) : Plan->Prop
 | []=>True
 | (_,.call _ G) :: pl=>LastsB G/\LastsWs n0 G full/\LastsPl n0 full pl
 | (_,_) :: pl=>LastsPl n0 full pl
def EsNe (b : Nat) : Plan->Prop
 | []=>True
 | (_,.es c _ _) :: pl=>b ≠ c/\EsNe b pl
 | (_,_) :: pl=>EsNe b pl
def EsOk (W : World) : Plan->Prop
 | []=>True
 | (_,.es b t m) :: pl=>(∃cs,Blk W b t cs/\cs.size = m)/\EsNe b pl/\EsOk W pl
 | (_,_) :: pl=>EsOk W pl
def esD : Plan->Nat->Prop
 | [],_=>False
 | (_,.es b _ _) :: pl,k=>k = b ∨ esD pl k
 | (_,_) :: pl,k=>esD pl k
def noEs : Plan->Bool
 | []=>true
 | (_,.es _ _ _) :: _=>false
 | (_,_) :: pl=>noEs pl
theorem back_of {ops : Array Oper} (h : edgesBack ops = true) {i j : Nat} {o : Oper} (ho : ops[i]? = some o) (hw : waits o j = true) : j < i:=by
 unfold waits at hw
 rw [<-Array.any_toList,List.any_eq_true] at hw
 obtain ⟨e,he,hk⟩:=hw
 simp only [Bool.and_eq_true,beq_iff_eq] at hk
 exact hk.2 ▸ edgesBack_spec h ho e (Array.mem_toList_iff.1 he) hk.1
theorem rchs_of {ops : Array Oper} (hb : edgesBack ops = true) : ∀(f i d : Nat),rchs ops f i d = true->d < i/\∀(o : Oper) (L : Array Bool),ops[i]? = some o->(∀k,waits o k = true->L[k]? = some true)->ClosedL ops L->L[d]? = some true
 | 0,_,_,h=>by cases h
 | f + 1,i,d,h=>by
  unfold rchs at h
  split at h
  ·cases h
  ·rename_i o ho
   rw [<-Array.any_toList,List.any_eq_true] at h
   obtain ⟨e,he,hk⟩:=h
   simp only [Bool.and_eq_true,Bool.or_eq_true,beq_iff_eq] at hk
   obtain ⟨h1,h2⟩:=hk
   have hw : waits o e.on = true:=by
    unfold waits
    rw [<-Array.any_toList,List.any_eq_true]
    exact ⟨e,he,by simp [h1]⟩
   have hlt:=back_of hb ho hw
   rcases h2 with h2 | h2
   ·refine ⟨by omega,fun o' L ho' hL _=>?_⟩
    obtain rfl : o = o':=Option.some.inj (ho.symm.trans ho')
    exact h2 ▸ hL _ hw
   ·obtain ⟨g1,g2⟩:=rchs_of hb f e.on d h2
    refine ⟨by omega,fun o' L ho' hL hc=>?_⟩
    obtain rfl : o = o':=Option.some.inj (ho.symm.trans ho')
    have hon:=hL _ hw
    have hlt2 : e.on < ops.size:=Nat.lt_trans hlt (Array.getElem?_eq_some_iff.1 ho).1
    exact g2 _ L (Array.getElem?_eq_getElem hlt2) (fun k hk=>hc _ _ (Array.getElem?_eq_getElem hlt2) hon k hk) hc
theorem kdOf_mem {n0 : Nat} : ∀{pl : Plan} {i : Nat},kdOf n0 pl i ≠ .q->∃p,(i,p) ∈ pl/\kdOf n0 pl i = kdK n0 p/\alOf pl i = isAl p
 | [],_,h=>absurd rfl h
 | (k,p) :: pl,i,h=>by
  unfold kdOf alOf at *
  split at h
  ·rename_i hb
   have:=Nat.eq_of_beq_eq_true hb
   subst this
   exact ⟨p,by simp,rfl,rfl⟩
  ·obtain ⟨p',h1,h2,h3⟩:=kdOf_mem (pl:=pl) h
   exact ⟨p',List.mem_cons_of_mem _ h1,h2,h3⟩
theorem alOf_mem : ∀{pl : Plan} {i : Nat} (n0 : Nat),alOf pl i = true->∃t m,kdOf n0 pl i = .call [] (Boxed n0 t m)
 | [],_,_,h=>by cases h
 | (k,p) :: pl,i,n0,h=>by
  unfold alOf at h
  unfold kdOf
  split at h
  ·cases p <;> first | exact ⟨_,_,rfl⟩ | cases h
  ·exact alOf_mem n0 h
theorem pk_call {ops : Array Oper} {n : Nat} {full : Plan} : ∀{pl : Plan},pkOk ops n full pl = true->∀i ds G,(i,PK.call ds G) ∈ pl->(∃d,dstAt ops i = some d)/\∀d ∈ ds,rchs ops 5 i d = true
 | [],_,i,ds,G,hm=>by cases hm
 | (k,p) :: pl,h,i,ds,G,hm=>by
  have hrest : pkOk ops n full pl = true:=by
   cases p <;> simp only [pkOk,Bool.and_eq_true] at h <;> first | exact h | exact h.2
  rcases List.mem_cons.1 hm with e | hm
  ·injection e with e1 e2
   subst e1 e2
   simp only [pkOk,Bool.and_eq_true,List.all_eq_true] at h
   refine ⟨?_,h.1.2⟩
   cases hd : dstAt ops i with
   | none=>rw [hd] at h; simp at h
   | some d=>exact ⟨d,rfl⟩
  ·exact pk_call hrest i ds G hm
theorem pk_al {ops : Array Oper} {n : Nat} {full : Plan} : ∀{pl : Plan},pkOk ops n full pl = true->∀i t m,(i,PK.al t m) ∈ pl->∃d,dstAt ops i = some d
 | [],_,i,t,m,hm=>by cases hm
 | (k,p) :: pl,h,i,t,m,hm=>by
  have hrest : pkOk ops n full pl = true:=by
   cases p <;> simp only [pkOk,Bool.and_eq_true] at h <;> first | exact h | exact h.2
  rcases List.mem_cons.1 hm with e | hm
  ·injection e with e1 e2
   subst e1 e2
   simp only [pkOk,Bool.and_eq_true] at h
   cases hd : dstAt ops i with
   | none=>rw [hd] at h; simp at h
   | some d=>exact ⟨d,rfl⟩
  ·exact pk_al hrest i t m hm
theorem pk_st {ops : Array Oper} {n : Nat} {full : Plan} : ∀{pl : Plan},pkOk ops n full pl = true->∀i ai t m,(i,PK.st ai t m) ∈ pl ->
  ∃o tt ad vo,ops[i]? = some o/\o.op = .store tt (.tmp ad) vo/\o.dst = none/\ai < n/\dstAt ops ai = some ad/\waits o ai = true/\alIs ai t m full = true
 | [],_,i,ai,t,m,hm=>by cases hm
 | (k,p) :: pl,h,i,ai,t,m,hm=>by
  have hrest : pkOk ops n full pl = true:=by
   cases p <;> simp only [pkOk,Bool.and_eq_true] at h <;> first | exact h | exact h.2
  rcases List.mem_cons.1 hm with e | hm
  ·injection e with e1 e2
   subst e1 e2
   simp only [pkOk,Bool.and_eq_true,decide_eq_true_eq] at h
   obtain ⟨⟨⟨⟨h1,h2⟩,h3⟩,-⟩,-⟩:=h
   split at h1
   ·cases h1
   ·rename_i o ho
    simp only [Bool.and_eq_true] at h1
    obtain ⟨⟨h4,h5⟩,h6⟩:=h1
    split at h6
    ·rename_i tt ad vo hop
     exact ⟨o,tt,ad,vo,ho,hop,by simpa using h5,h2,by simpa using h6,h4,h3⟩
    ·cases h6
  ·exact pk_st hrest i ai t m hm
theorem noSt_of {ai : Nat} : ∀{pl : Plan},noSt ai pl = true->∀j t m,(j,PK.st ai t m) ∉ pl
 | [],_,j,t,m=>by simp
 | (k,p) :: pl,h,j,t,m=>by
  intro hm
  rcases List.mem_cons.1 hm with e | hm
  ·injection e with e1 e2
   subst e1 e2
   simp [noSt] at h
  ·have hrest : noSt ai pl = true:=by
    cases p <;> simp only [noSt,Bool.and_eq_true] at h <;> first | exact h | exact h.2
   exact noSt_of hrest j t m hm
theorem pk_inj {ops : Array Oper} {n : Nat} {full : Plan} : ∀{pl : Plan},pkOk ops n full pl = true->∀i j ai t m t' m',(i,PK.st ai t m) ∈ pl->(j,PK.st ai t' m') ∈ pl->i = j
 | [],_,i,j,ai,t,m,t',m',h1,_=>by cases h1
 | (k,p) :: pl,h,i,j,ai,t,m,t',m',h1,h2=>by
  have hrest : pkOk ops n full pl = true:=by
   cases p <;> simp only [pkOk,Bool.and_eq_true] at h <;> first | exact h | exact h.2
  have hno : ∀x t m,p = .st x t m->noSt x pl = true:=by
   rintro x t m rfl
   simp only [pkOk,Bool.and_eq_true] at h
   exact h.1.2
  rcases List.mem_cons.1 h1 with e1 | h1
  ·injection e1 with e1 e2
   rcases List.mem_cons.1 h2 with e3 | h2
   ·injection e3 with e3 e4
    rw [e1,e3]
   ·exact absurd h2 (noSt_of (hno ai t m e2.symm) j t' m')
  ·rcases List.mem_cons.1 h2 with e3 | h2
   ·injection e3 with e3 e4
    exact absurd h1 (noSt_of (hno ai t' m' e4.symm) i t m)
   ·exact pk_inj hrest i j ai t m t' m' h1 h2
theorem pk_es {ops : Array Oper} {n : Nat} {full : Plan} : ∀{pl : Plan},pkOk ops n full pl = true->∀i b t m,(i,PK.es b t m) ∈ pl ->
  (∃o tt ad vo,ops[i]? = some o/\o.op = .store tt ad vo/\o.dst = none)/\∀k o,k < n->ops[k]? = some o->readsOp o = true->hasI k full = false->rchs ops 5 i k = true
 | [],_,i,b,t,m,hm=>by cases hm
 | (k,p) :: pl,h,i,b,t,m,hm=>by
  have hrest : pkOk ops n full pl = true:=by
   cases p <;> simp only [pkOk,Bool.and_eq_true] at h <;> first | exact h | exact h.2
  rcases List.mem_cons.1 hm with e | hm
  ·injection e with e1 e2
   subst e1 e2
   simp only [pkOk,Bool.and_eq_true,List.all_eq_true] at h
   obtain ⟨⟨h1,h2⟩,-⟩:=h
   refine ⟨?_,fun k o hk hok hr hh=>?_⟩
   ·split at h1
    ·cases h1
    ·rename_i o ho
     simp only [Bool.and_eq_true] at h1
     obtain ⟨h5,h6⟩:=h1
     split at h6
     ·rename_i tt ad vo hop
      exact ⟨o,tt,ad,vo,ho,hop,by simpa using h5⟩
     ·cases h6
   ·have:=h2 k (List.mem_range.2 hk)
    rw [hok] at this
    simpa [hr,hh] using this
  ·exact pk_es hrest i b t m hm
theorem hasI_of {n0 : Nat} : ∀{pl : Plan} {i : Nat},hasI i pl = true->kdOf n0 pl i ≠ .q
 | [],_,h=>by cases h
 | (j,p) :: pl,i,h=>by
  unfold hasI at h
  unfold kdOf
  split
  ·cases p <;> intro e <;> cases e
  ·rename_i hb
   simp only [Bool.or_eq_true,beq_iff_eq] at h
   rcases h with h | h
   ·subst h
    rw [Nat.beq_refl] at hb
    cases hb
   ·exact hasI_of h
theorem esNe_of {b : Nat} : ∀{pl : Plan},EsNe b pl->∀j c t m,(j,PK.es c t m) ∈ pl->b ≠ c
 | [],_,j,c,t,m,h=>by cases h
 | (k,p) :: pl,h,j,c,t,m,hm=>by
  rcases List.mem_cons.1 hm with e | hm
  ·injection e with e1 e2
   subst e1 e2
   exact h.1
  ·have hrest : EsNe b pl:=by cases p <;> first | exact h.2 | exact h
   exact esNe_of hrest j c t m hm
theorem esOk_of {W : World} : ∀{pl : Plan},EsOk W pl->(∀i b t m,(i,PK.es b t m) ∈ pl->esD pl b/\∃cs,Blk W b t cs/\cs.size = m)/\∀i j b t m t' m',(i,PK.es b t m) ∈ pl->(j,PK.es b t' m') ∈ pl->i = j
 | [],_=>⟨fun i b t m h=>(by cases h),fun i j b t m t' m' h=>(by cases h)⟩
 | (k,p) :: pl,h=>by
  have hrest : EsOk W pl:=by cases p <;> first | exact h.2.2 | exact h
  obtain ⟨h1,h2⟩:=esOk_of hrest
  refine ⟨fun i b t m hm=>?_,fun i j b t m t' m' ha hb=>?_⟩
  ·rcases List.mem_cons.1 hm with e | hm
   ·injection e with e1 e2
    subst e1 e2
    exact ⟨.inl rfl,h.1⟩
   ·refine ⟨?_,(h1 i b t m hm).2⟩
    have:=(h1 i b t m hm).1
    cases p <;> first | exact .inr this | exact this
  ·rcases List.mem_cons.1 ha with e1 | ha1
   ·injection e1 with e1 e2
    rcases List.mem_cons.1 hb with e3 | hb1
    ·injection e3 with e3 e4
     rw [e1,e3]
    ·subst e2
     exact absurd rfl (esNe_of h.2.1 j b t' m' hb1)
   ·rcases List.mem_cons.1 hb with e3 | hb1
    ·injection e3 with e3 e4
     subst e4
     exact absurd rfl (esNe_of h.2.1 i b t m ha1)
    ·exact h2 i j b t m t' m' ha1 hb1
theorem esD_no : ∀{pl : Plan},noEs pl = true->∀k,¬ esD pl k
 | [],_,k=>fun h=>h
 | (j,p) :: pl,h,k=>by
  have hrest : noEs pl = true:=by cases p <;> first | exact h | cases h
  have:=esD_no hrest k
  cases p <;> first | exact this | cases h
theorem alIs_of {n0 ai : Nat} {t : TypeId} {m : Nat} : ∀{pl : Plan},alIs ai t m pl = true->alOf pl ai = true/\kdOf n0 pl ai = .call [] (Boxed n0 t m)
 | [],h=>by cases h
 | (i,p) :: pl,h=>by
  unfold alIs at h
  unfold alOf kdOf
  split at h
  ·rename_i hb
   cases p <;> first | cases h | skip
   rename_i t' m'
   simp only [Bool.and_eq_true,beq_iff_eq] at h
   obtain ⟨rfl,rfl⟩:=h
   exact ⟨rfl,rfl⟩
  ·exact alIs_of h
theorem lastsWe_of {n0 : Nat} {G : World->Value->Prop} : ∀{pl : Plan},LastsWs n0 G pl->∀i b t m,(i,PK.es b t m) ∈ pl->LastsW 0 t m G
 | [],_,i,b,t,m,h=>by cases h
 | (k,p) :: pl,h,i,b,t,m,hm=>by
  rcases List.mem_cons.1 hm with e | hm
  ·injection e with e1 e2
   subst e1 e2
   exact h.1
  ·have hrest : LastsWs n0 G pl:=by cases p <;> first | exact h.2 | exact h
   exact lastsWe_of hrest i b t m hm
theorem lastsWs_of {n0 : Nat} {G : World->Value->Prop} : ∀{pl : Plan},LastsWs n0 G pl->∀i ai t m,(i,PK.st ai t m) ∈ pl->LastsW n0 t m G
 | [],_,i,ai,t,m,h=>by cases h
 | (k,p) :: pl,h,i,ai,t,m,hm=>by
  rcases List.mem_cons.1 hm with e | hm
  ·injection e with e1 e2
   subst e1 e2
   exact h.1
  ·have hrest : LastsWs n0 G pl:=by cases p <;> first | exact h.2 | exact h
   exact lastsWs_of hrest i ai t m hm
theorem last_of {n0 : Nat} {full : Plan} : ∀{pl : Plan},LastsPl n0 full pl->∀i ds G,(i,PK.call ds G) ∈ pl->LastsB G/\LastsWs n0 G full
 | [],_,i,ds,G,h=>by cases h
 | (k,p) :: pl,h,i,ds,G,hm=>by
  rcases List.mem_cons.1 hm with e | hm
  ·injection e with e1 e2
   subst e1 e2
   exact ⟨h.1,h.2.1⟩
  ·have hrest : LastsPl n0 full pl:=by cases p <;> first | exact h.2.2 | exact h
   exact last_of hrest i ds G hm
theorem good_of {ops : Array Oper} {n0 n N : Nat} {pl : Plan} (h : serB ops n N pl = true) (hl : LastsPl n0 pl pl) (he : ∀i j b t m t' m',(i,PK.es b t m) ∈ pl->(j,PK.es b t' m') ∈ pl->i = j) : Good ops (kdOf n0 pl) (alOf pl) n0 n N:=by
 unfold serB at h
 simp only [Bool.and_eq_true] at h
 obtain ⟨⟨⟨hb,hh⟩,hp⟩,hd⟩:=h
 have H : ∀i o,i < n->ops[i]? = some o->(∀d,o.dst = some d->d < N)/\noSel o.op = true/\∀j d,j < n->(ops[j]?).bind (·.dst) = some d->(d ∈ o.looksAt ops->waits o j = true)/\(i = j ∨ o.dst ≠ some d):=by
  intro i o hi ho
  have h1:=List.all_eq_true.1 hh i (List.mem_range.2 hi)
  rw [ho] at h1
  simp only [Bool.and_eq_true] at h1
  obtain ⟨⟨h1,h2⟩,h3⟩:=h1
  refine ⟨fun d hd=>?_,h2,fun j d hj hjd=>?_⟩
  ·rw [hd] at h1
   simpa using h1
  ·have h4:=List.all_eq_true.1 h3 j (List.mem_range.2 hj)
   rw [hjd] at h4
   simp only [Bool.and_eq_true,Bool.or_eq_true,Bool.not_eq_true',beq_iff_eq,bne_iff_ne] at h4
   exact ⟨fun hm=>by
    rcases h4.1 with h5 | h5
    ·rw [List.contains_iff_mem.2 hm] at h5
     cases h5
    ·exact h5,h4.2⟩
 have callm : ∀i ds G,kdOf n0 pl i = .call ds G->(i,PK.call ds G) ∈ pl ∨ ∃t m,(i,PK.al t m) ∈ pl/\ds = []/\G = Boxed n0 t m:=fun i ds G hk=>by
  obtain ⟨p,h1,h2,-⟩:=kdOf_mem (n0:=n0) (pl:=pl) (i:=i) (by rw [hk]; intro e; cases e)
  rw [hk] at h2
  cases p <;> first | cases h2 | skip
  ·exact .inl h1
  ·exact .inr ⟨_,_,h1,rfl,rfl⟩
 have stm : ∀i ai t m,kdOf n0 pl i = .store ai t m->(i,PK.st ai t m) ∈ pl:=fun i ai t m hk=>by
  obtain ⟨p,h1,h2,-⟩:=kdOf_mem (n0:=n0) (pl:=pl) (i:=i) (by rw [hk]; intro e; cases e)
  rw [hk] at h2
  cases p <;> first | cases h2 | skip
  exact h1
 have esm : ∀i b t m,kdOf n0 pl i = .es b t m->(i,PK.es b t m) ∈ pl:=fun i b t m hk=>by
  obtain ⟨p,h1,h2,-⟩:=kdOf_mem (n0:=n0) (pl:=pl) (i:=i) (by rw [hk]; intro e; cases e)
  rw [hk] at h2
  cases p <;> first | cases h2 | skip
  exact h1
 refine ⟨fun i o d hi ho hdd=>(H i o hi ho).1 d hdd,fun i o ds G hi ho hk=>?_,fun i j o o' d hi hj ho ho' h1 h2=>?_,fun i j o o' d hi hj ho ho' hd1 hm=>?_,fun i o j ho hw=>back_of hb ho hw,fun i o cs b hi ho he=>?_,
  fun i ds G hi hk d hdm=>?_,fun i ds G hk=>?_,fun i ds G j ai t m hk hj=>?_,fun i ai t m hi hk=>?_,fun i j ai t m t' m' h1 h2=>pk_inj hd i j ai t m t' m' (stm _ _ _ _ h1) (stm _ _ _ _ h2),fun i b t m hi hk=>(pk_es hd i b t m (esm _ _ _ _ hk)).1,fun i j b t m t' m' h1 h2=>he i j b t m t' m' (esm _ _ _ _ h1) (esm _ _ _ _ h2),
  fun i o j b t m hi hk ho hr hj hkj L hcl hLj=>?_,fun i ds G j b t m hk hj=>?_,fun i hi=>alOf_mem n0 hi⟩
 ·have : ∃d,dstAt ops i = some d:=by
   rcases callm i ds G hk with h1 | ⟨t,m,h1,-,-⟩
   ·exact (pk_call hd i ds G h1).1
   ·exact pk_al hd i t m h1
  obtain ⟨d,hdd⟩:=this
  unfold dstAt at hdd
  rw [ho] at hdd
  exact ⟨d,hdd⟩
 ·have:=(H i o hi ho).2.2 j d hj (by rw [ho']; exact h2)
  rcases this.2 with h3 | h3
  ·exact h3
  ·exact absurd h1 h3
 ·exact ((H i o hi ho).2.2 j d hj (by rw [ho']; exact hd1)).1 hm
 ·have:=(H i o hi ho).2.1
  rw [he] at this
  cases this
 ·rcases callm i ds G hk with h1 | ⟨t,m,h1,h2,-⟩
  ·exact rchs_of hb 5 i d ((pk_call hd i ds G h1).2 d hdm)
  ·subst h2
   cases hdm
 ·rcases callm i ds G hk with h1 | ⟨t,m,h1,-,h3⟩
  ·exact (last_of hl i ds G h1).1
  ·subst h3
   exact lastsB_box _ _ _
 ·rcases callm i ds G hk with h1 | ⟨t',m',h1,-,h3⟩
  ·exact lastsWs_of (last_of hl i ds G h1).2 j ai t m (stm _ _ _ _ hj)
  ·subst h3
   exact lastsW_box _ _ _ _ _ _
 ·obtain ⟨o,tt,ad,vo,h1,h2,h3,h4,h5,h6,h7⟩:=pk_st hd i ai t m (stm _ _ _ _ hk)
  obtain ⟨g1,g2⟩:=alIs_of (n0:=n0) h7
  exact ⟨o,tt,ad,vo,h1,h2,h3,h4,h5,g1,g2,h6⟩
 ·have hh : hasI i pl = false:=by
   cases h : hasI i pl with
   | true=>exact absurd hk (hasI_of h)
   | false=>rfl
  have hrc:=(pk_es hd j b t m (esm _ _ _ _ hkj)).2 i o hi ho hr hh
  obtain ⟨oj,-,-,-,hoj,-,-⟩:=(pk_es hd j b t m (esm _ _ _ _ hkj)).1
  exact (rchs_of hb 5 j i hrc).2 oj L hoj (fun k hk=>hcl j oj hoj hLj k hk) hcl
 ·rcases callm i ds G hk with h1 | ⟨t',m',h1,-,h3⟩
  ·exact lastsWe_of (last_of hl i ds G h1).2 j b t m (esm _ _ _ _ hj)
  ·subst h3
   exact lastsW_box _ _ _ _ _ _
theorem memB_of : ∀{ds : List Nat} {i : Nat},memB ds i = true->i ∈ ds
 | d :: ds,i,h=>by
  unfold memB at h
  split at h
  ·rename_i hb
   exact Nat.eq_of_beq_eq_true hb ▸ List.mem_cons_self
  ·exact List.mem_cons_of_mem _ (memB_of h)
theorem FD_of {ds : List Nat} {w : World} {X : Prop} : ∀{F : Facts},FD ds F w X->(∀p ∈ F,p.1 ∈ ds->p.2.1 w p.2.2)->X
 | [],h,_=>h
 | (i,G,v) :: r,h,hl=>by
  have hr : ∀p ∈ r,p.1 ∈ ds->p.2.1 w p.2.2:=fun p hp=>hl p (List.mem_cons_of_mem _ hp)
  unfold FD at h
  split at h
  ·rename_i hb
   exact FD_of (h (hl (i,G,v) sI (memB_of hb))) hr
  ·exact FD_of h hr
theorem FD_mono {ds : List Nat} {w : World} {X Y : Prop} (hXY : X->Y) : ∀{F : Facts},FD ds F w X->FD ds F w Y
 | [],h=>hXY h
 | (i,G,v) :: r,h=>by
  unfold FD at h ⊢
  split
  ·rename_i hb
   rw [hb] at h
   exact fun hg=>FD_mono hXY (h hg)
  ·rename_i hb
   rw [hb] at h
   exact FD_mono hXY h
theorem FA_of {w : World} {X : Prop} : ∀{F : Facts},FA F w X->(∀p ∈ F,p.2.1 w p.2.2)->X
 | [],h,_=>h
 | [(i,G,v)],h,hl=>h (hl (i,G,v) sI)
 | (i,G,v) :: q :: r,h,hl=>FA_of (F:=q :: r) (h (hl (i,G,v) sI)) fun p hp=>hl p (List.mem_cons_of_mem _ hp)
theorem FC_of {w : World} {X : Prop} : ∀{C : Conts},FC C w X->(∀x ∈ C,BlkV w x.1 x.2.1 x.2.2)->X
 | [],h,_=>h
 | (v,t,cs) :: r,h,hl=>FC_of (C:=r) (h (hl (v,t,cs) sI)) fun p hp=>hl p (List.mem_cons_of_mem _ hp)
theorem FN_of {X : Prop} : ∀{B : Boxes},FN B X->B.Pairwise (fun p q=>p.2 ≠ q.2)->X
 | [],h,_=>h
 | p :: r,h,hp=>FN_of (B:=r) (h fun q hq=>List.rel_of_pairwise_cons hp hq) (List.Pairwise.of_cons hp)
section
variable {P : Program} {ops : Array Oper} {kd : Nat->Kd} {al : Nat->Bool} {D : Nat->Prop} {W : World} {n n0 N : Nat}
structure InvA (ops : Array Oper) (kd : Nat->Kd) (al : Nat->Bool) (c : Nat) (F : Facts) (B : Boxes) (C : Conts) (a : Act) : Prop where
 f : ∀p ∈ F,p.1 < c/\∀w,factAt ops kd p.1 a.tmps w->p.2.1 w p.2.2
 b1 : B.Pairwise (fun p q=>p.1 < q.1)
 b : ∀p ∈ B,p.1 < c/\al p.1 = true/\∃d,dstAt ops p.1 = some d/\a.tmps[d]? = some (ptr p.2)
 c : ∀x ∈ C,(∃j ai m o tt ad vo,j < c/\kd j = .store ai x.2.1 m/\ops[j]? = some o/\o.op = .store tt (.tmp ad) vo/\a.eval (.tmp ad) = x.1/\(a.eval vo).cells = x.2.2) ∨
  ∃j b m o tt ad vo,j < c/\kd j = .es b x.2.1 m/\ops[j]? = some o/\o.op = .store tt ad vo/\x.1 = ptr b/\(a.eval vo).cells = x.2.2
theorem invA_put (g : Good ops kd al n0 n N) {c : Nat} {o : Oper} {F : Facts} {B : Boxes} {C : Conts} {a : Act} {u : Value} (hc : c < n) (ho : ops[c]? = some o) (h : InvA ops kd al c F B C a) : InvA ops kd al (c + 1) F B C (a.put o.dst u):=by
 have keepT : ∀k x,k < c->dstAt ops k = some x->(a.put o.dst u).tmps[x]? = a.tmps[x]?:=fun k x hk hx=>by
  cases ho2 : o.dst with
  | none=>rfl
  | some y=>
   refine put_ne ?_
   rintro rfl
   unfold dstAt at hx
   cases ho' : ops[k]? with
   | none=>rw [ho'] at hx; cases hx
   | some o'=>
    rw [ho'] at hx
    have:=g.inj k c o' o y oM hc ho' ho hx ho2
    omega
 refine ⟨fun p hp=>?_,h.b1,fun p hp=>?_,fun x hx=>?_⟩
 ·obtain ⟨h1,h2⟩:=h.f p hp
  exact ⟨by omega,fun w hw=>h2 w ((fact_put g hc oM ho oM).1 hw)⟩
 ·obtain ⟨h1,h2,d,h3,h4⟩:=h.b p hp
  exact ⟨by omega,h2,d,h3,(keepT p.1 d h1 h3).trans h4⟩
 ·have hl : ∀j oj,j < c->ops[j]? = some oj->∀d,o.dst = some d->d ∉ oj.looksAt ops:=fun j oj h1 h3 d h1' h2'=>by
   have:=g.back j oj c h3 (g.look j c oj o d oM hc h3 ho h1' h2')
   omega
  rcases h.c x hx with ⟨j,ai,m,oj,tt,ad,vo,h1,h2,h3,h4,h5,h6⟩ | ⟨j,b,m,oj,tt,ad,vo,h1,h2,h3,h4,h5,h6⟩
  ·exact .inl ⟨j,ai,m,oj,tt,ad,vo,by omega,h2,h3,h4,(eval_put' (x:=.tmp ad) (hl j oj h1 h3) (by rw [h4]; simp [Op.operands])).trans h5,by rw [eval_put' (x:=vo) (hl j oj h1 h3) (by rw [h4]; simp [Op.operands])]; exact h6⟩
  ·exact .inr ⟨j,b,m,oj,tt,ad,vo,by omega,h2,h3,h4,h5,by rw [eval_put' (x:=vo) (hl j oj h1 h3) (by rw [h4]; simp [Op.operands])]; exact h6⟩
theorem qrun_SS (g : Good ops kd al n0 n N) {E : Act->Prop} {K : Act->Prop} {F : Facts} {B : Boxes} {C : Conts} : ∀(l : List Oper) (c : Nat) (r : List Nat) (a : Act),c + l.length<=n->(∀j,j < l.length->l[j]? = ops[c + j]?)->(∀j,c<=j->j < c + l.length->kd j = .q)->a.tmps.size = N->InvA ops kd al c F B C a ->
  (∀a,a.tmps.size = N->InvA ops kd al (c + l.length) F B C a->K a->SS P ops kd al D W n E r a)->qrun P ops W K l a->SS P ops kd al D W n E (List.range' c l.length ++ r) a
 | [],c,r,a,_,_,_,hs,hi,hk,h=>hk a hs hi h
 | o :: l,c,r,a,hn,hl,hq,hs,hi,hk,h=>by
  simp only [List.length_cons] at hn hl hq hk ⊢
  have ho : ops[c]? = some o:=by have:=hl 0 oM; simpa using this.symm
  have hcn : c < n:=by omega
  rw [List.range'_succ,List.cons_append]
  unfold qrun at h
  obtain ⟨h1,h2⟩:=h
  have nxt : ∀v,qrun P ops W K l (a.put o.dst v)->SS P ops kd al D W n E (List.range' (c + 1) l.length ++ r) (a.put o.dst v):=fun v hv=>
   qrun_SS g l (c + 1) r _ oM (fun j hj=>by have:=hl (j + 1) oM; rw [List.getElem?_cons_succ] at this; rw [this]; congr 1; omega) (fun j h1 h2=>hq j oM oM) (by rw [put_size]; exact hs)
    (invA_put g hcn ho hi) (fun a ha hia=>hk a ha (by rw [show c + (l.length + 1) = c + 1 + l.length by omega]; exact hia)) hv
  refine ⟨o,ho,?_,?_⟩
  ·unfold Ob
   rw [hq c oM oM]
   intro hw
   rw [if_pos hw] at h2
   have hok:=h1 hw
   unfold Oper.still at h2
   cases hr : (execOp a.eval o).run P W with
   | halt x w'=>rw [hr] at h2; exact h2.elim
   | ok x w'=>
    obtain ⟨v,rfl⟩:=val_op hok hr
    rw [hr] at h2
    obtain ⟨rfl,-⟩:=h2
    exact ⟨v,hok,rfl⟩
  ·intro v hv
   unfold Val at hv
   rw [hq c oM oM] at hv
   rcases hv with ⟨hw,hok,hr⟩ | ⟨hw,rfl⟩
   ·rw [if_pos hw] at h2
    unfold Oper.still at h2
    rw [hr] at h2
    exact nxt v h2.2
   ·rw [if_neg (by rw [hw]; simp)] at h2
    exact nxt undef h2
theorem kdOf_skip {n n0 : Nat} : ∀{pl : Plan} {c j : Nat},planAsc n c pl = true->j < c->kdOf n0 pl j = .q
 | [],_,_,_,_=>rfl
 | (i,p) :: pl,c,j,h,hj=>by
  unfold planAsc at h
  simp only [Bool.and_eq_true,decide_eq_true_eq] at h
  unfold kdOf
  split
  ·rename_i hb
   have:=Nat.eq_of_beq_eq_true hb
   omega
  ·exact kdOf_skip h.2 oM
def EndE (ops : Array Oper) (kd : Nat->Kd) (al : Nat->Bool) (D : Nat->Prop) (W : World) (n : Nat) (E : Act->World->Prop) (a : Act) : Prop:=
 ∀w,BelD D W w->(∀j,j < n->factAt ops kd j a.tmps w)->(∀j,j < n->StAt ops kd W.heap.size j a w)->(∀j,j < n->EsAt ops kd j a w)->FarAt ops al n (fun _=>True) a.tmps->E a w
theorem ser_SS {E : Act->World->Prop} {R : World->Prop} (hR : ∀w,BelD D W w->R w) (g : Good ops kd al W.heap.size n N) (hn : n<=ops.size) : ∀(pl : Plan) (c : Nat) (l : List Oper) (F : Facts) (B : Boxes) (C : Conts) (a : Act),c<=n->l.length = n - c->(∀j,j < l.length->l[j]? = ops[c + j]?)->planAsc n c pl = true->(∀j,c<=j->kd j = kdOf W.heap.size pl j)->(∀j,c<=j->al j = alOf pl j)->a.tmps.size = N->InvA ops kd al c F B C a ->
  ser P ops W R E c pl l F B C a->SS P ops kd al D W n (EndE ops kd al D W n E) (List.range' c (n - c)) a
 | [],c,l,F,B,C,a,hc,hlen,hl,_,hk,ha,hs,hi,h=>by
  have:=qrun_SS (D:=D) (r:=[]) (E:=EndE ops kd al D W n E) g l c a oM hl (fun j h1 _=>hk j h1) hs hi (fun a' _ hi' hK w hw hf hst hes hfar=>by
   refine FN_of (FC_of (FA_of (hK w (hR w hw)) fun p hp=>(hi'.f p hp).2 w (hf _ (by have:=(hi'.f p hp).1; omega))) fun x hx=>?_) ?_
   ·rcases hi'.c x hx with ⟨j,ai,m,o,tt,ad,vo,h1,h2,h3,h4,h5,h6⟩ | ⟨j,b,m,o,tt,ad,vo,h1,h2,h3,h4,h5,h6⟩
    rotate_left
    ·intro b' hb'
     rw [h5] at hb'
     unfold ptr at hb'
     injection hb' with hb'
     injection hb' with hb'
     injection hb' with hb'
     rw [<-hb',<-h6]
     exact hes j oM b x.2.1 m h2 o tt ad vo h3 h4
    obtain ⟨b,e1,e2,e3⟩:=hst j oM ai x.2.1 m h2 o tt ad vo h3 h4
    intro b' hb'
    have he : a'.eval (.tmp ad) = ptr b:=by
     show a'.tmps.getD ad undef = ptr b
     rw [Array.getD_eq_getD_getElem?,e1]
     rfl
    rw [h5,hb'] at he
    unfold ptr at he
    injection he with he
    injection he with he
    injection he with he
    rw [he,<-h6]
    exact e3
   ·refine List.Pairwise.imp_of_mem (fun {p q} hp hq hpq=>?_) hi'.b1
    obtain ⟨p1,p2,d,p3,p4⟩:=hi'.b p hp
    obtain ⟨q1,q2,e,q3,q4⟩:=hi'.b q hq
    intro heq
    exact hfar p.1 q.1 oM oM oM p2 q2 trivial trivial d e p3 q3 (by rw [p4,q4,heq])) h
  rw [List.append_nil,hlen] at this
  exact this
 | (i,p) :: pl,c,l,F,B,C,a,hc,hlen,hl,hasc,hk,ha,hs,hi,h=>by
  have hasc':=hasc
  unfold planAsc at hasc
  simp only [Bool.and_eq_true,decide_eq_true_eq] at hasc
  obtain ⟨⟨hci,hin⟩,hasc⟩:=hasc
  have ht : (l.take (i - c)).length = i - c:=by rw [List.length_take]; omega
  have hsplit : List.range' c (n - c) = List.range' c (i - c) ++ i :: List.range' (i + 1) (n - (i + 1)):=by
   rw [show n - c = (i - c) + ((n - (i + 1)) + 1) by omega,<-List.range'_append_1,show c + (i - c) = i by omega,List.range'_succ]
  rw [hsplit]
  have hki : kd i = kdOf W.heap.size ((i,p) :: pl) i:=hk i hci
  have hkq : ∀j,c<=j->j < c + (l.take (i - c)).length->kd j = .q:=fun j h1 h2=>by
   rw [ht] at h2
   rw [hk j h1]
   unfold kdOf
   split
   ·rename_i hb
    have:=Nat.eq_of_beq_eq_true hb
    omega
   ·exact kdOf_skip hasc oM
  have hneq : ∀j,i + 1<=j->Nat.beq i j = false:=fun j hj=>by rw [<-Bool.not_eq_true]; exact fun hb=>by have:=Nat.eq_of_beq_eq_true hb; omega
  have hkn : ∀j,i + 1<=j->kd j = kdOf W.heap.size pl j:=fun j hj=>by
   rw [hk j oM]
   show (match Nat.beq i j with | true=>_ | false=>kdOf W.heap.size pl j) = _
   rw [hneq j hj]
  have han : ∀j,i + 1<=j->al j = alOf pl j:=fun j hj=>by
   rw [ha j oM]
   show (match Nat.beq i j with | true=>_ | false=>alOf pl j) = _
   rw [hneq j hj]
  have hki' : kd i = kdK W.heap.size p:=by
   rw [hki]
   show (match Nat.beq i i with | true=>_ | false=>_) = _
   rw [Nat.beq_refl]
  have hai' : al i = isAl p:=by
   rw [ha i hci]
   show (match Nat.beq i i with | true=>_ | false=>_) = _
   rw [Nat.beq_refl]
  have:=qrun_SS (D:=D) (F:=F) (B:=B) (C:=C) (r:=i :: List.range' (i + 1) (n - (i + 1))) (E:=EndE ops kd al D W n E) g (l.take (i - c)) c a (by rw [ht]; omega)
   (fun j hj=>by rw [List.getElem?_take_of_lt oM]; exact hl j oM) hkq hs hi (fun a' hs' hi' hK=>by
    rw [ht,show c + (i - c) = i by omega] at hi'
    have hdr : ∀j,(l.drop (i - c))[j]? = l[i - c + j]?:=fun j=>List.getElem?_drop
    have hsz : (l.drop (i - c)).length = n - i:=by rw [List.length_drop]; omega
    cases hd : l.drop (i - c) with
    | nil=>rw [hd] at hsz; simp at hsz; omega
    | cons o r=>
     rw [hd] at hK hdr hsz
     simp only [List.length_cons] at hsz
     have ho : ops[i]? = some o:=by
      have h0:=hdr 0
      rw [List.getElem?_cons_zero,hl _ oM] at h0
      rw [h0]
      congr 1
      omega
     have hrl : ∀j,j < r.length->r[j]? = ops[i + 1 + j]?:=fun j hj=>by
      have h0:=hdr (j + 1)
      rw [List.getElem?_cons_succ,hl _ oM] at h0
      rw [h0]
      congr 1
      omega
     have go : ∀F' B' C' u,InvA ops kd al (i + 1) F' B' C' (a'.put o.dst u)->ser P ops W R E (i + 1) pl r F' B' C' (a'.put o.dst u)->SS P ops kd al D W n (EndE ops kd al D W n E) (List.range' (i + 1) (n - (i + 1))) (a'.put o.dst u):=
      fun F' B' C' u h1 h2=>ser_SS hR g hn pl (i + 1) r F' B' C' _ oM oM hrl hasc hkn han (by rw [put_size]; exact hs') h1 h2
     cases p with
     | skip=>
      obtain ⟨h1,h2⟩:=hK
      refine ⟨o,ho,by unfold Ob; rw [hki']; exact h1,fun v hv=>?_⟩
      unfold Val at hv
      rw [hki'] at hv
      obtain ⟨-,rfl⟩:=hv
      exact go F B C undef (invA_put g hin ho hi') h2
     | call ds G=>
      obtain ⟨⟨h1,h2⟩,h3⟩:=hK
      refine ⟨o,ho,?_,fun v hv=>?_⟩
      ·unfold Ob
       rw [hki']
       refine ⟨h1,fun w hw hf=>?_⟩
       have hg:=FD_of (h2 w (hR w hw)) fun p hp hpd=>(hi'.f p hp).2 w (hf _ hpd)
       refine gives_mono (fun w2 v hv=>⟨hv,fun hal=>?_⟩) hg
       rw [hai'] at hal
       cases hal
      ·unfold Val at hv
       rw [hki'] at hv
       obtain ⟨-,w,hw,-,hg⟩:=hv
       have hip:=invA_put (u:=v) g hin ho hi'
       refine go _ B C v ⟨fun q hq=>?_,hip.b1,hip.b,hip.c⟩ (h3 v ⟨w,hR w hw,hg⟩)
       rcases List.mem_append.1 hq with hq | hq
       ·exact hip.f q hq
       ·obtain rfl:=List.mem_singleton.1 hq
        refine ⟨Nat.lt_succ_self _,fun w hw=>?_⟩
        dsimp only at hw ⊢
        unfold factAt at hw
        rw [hki'] at hw
        obtain ⟨d,hd⟩:=g.dstc i o ds G hin ho hki'
        refine hw d v (by unfold dstAt; rw [ho]; exact hd) ?_
        rw [hd]
        exact put_get (by rw [hs']; exact g.dst i o d hin ho hd)
     | al t m=>
      obtain ⟨⟨h1,h2⟩,h3⟩:=hK
      refine ⟨o,ho,?_,fun v hv=>?_⟩
      ·unfold Ob
       rw [hki']
       refine ⟨h1,fun w hw _=>gives_mono (fun w2 v hv=>?_) (h2 w (hR w hw))⟩
       obtain ⟨e,cs,h4,h5⟩:=hv
       exact ⟨⟨_,cs,e,hw.size,h4,h5⟩,fun _=>⟨_,e,Nat.le_refl _⟩⟩
      ·unfold Val at hv
       rw [hki'] at hv
       obtain ⟨-,w,hw,-,b,cs,rfl,hb,-,-⟩:=hv
       have hip:=invA_put (u:=ptr b) g hin ho hi'
       obtain ⟨d,hd⟩:=g.dstc i o [] _ hin ho hki'
       refine go F (B ++ [(i,b)]) C (ptr b) ⟨hip.f,?_,fun q hq=>?_,hip.c⟩ (h3 b hb)
       ·rw [List.pairwise_append]
        exact ⟨hip.b1,by simp,fun q hq x hx=>by
         obtain rfl:=List.mem_singleton.1 hx
         exact (hi'.b q hq).1⟩
       ·rcases List.mem_append.1 hq with hq | hq
        ·exact hip.b q hq
        ·obtain rfl:=List.mem_singleton.1 hq
         refine ⟨Nat.lt_succ_self _,hai',d,by unfold dstAt; rw [ho]; exact hd,?_⟩
         rw [hd]
         exact put_get (by rw [hs']; exact g.dst i o d hin ho hd)
     | st ai t m=>
      obtain ⟨h1,tt,ad,vo,h2,h3,h4,h5,h6⟩:=hK
      refine ⟨o,ho,by unfold Ob; rw [hki']; exact ⟨h1,tt,ad,vo,h2,h3,h4,h5⟩,fun v _=>?_⟩
      obtain ⟨o',tt',ad',vo',ho',hop',hdn,-,-,-,-,-⟩:=g.sto i ai t m hin hki'
      obtain rfl : o = o':=Option.some.inj (ho.symm.trans ho')
      have hip:=invA_put (u:=v) g hin ho hi'
      have hpa : a'.put o.dst v = a':=by rw [hdn]; rfl
      rw [<-hpa] at h6
      refine go F B _ v ⟨hip.f,hip.b1,hip.b,fun x hx=>?_⟩ (by rw [hpa] at h6 ⊢; exact h6)
      rcases List.mem_append.1 hx with hx | hx
      ·exact hip.c x hx
      ·obtain rfl:=List.mem_singleton.1 hx
       rw [hpa]
       exact .inl ⟨i,ai,m,o,tt,ad,vo,Nat.lt_succ_self _,hki',ho,h2,rfl,rfl⟩
     | es b t m=>
      obtain ⟨h1,tt,ad,vo,h2,h0,h3,h4,h5,h6⟩:=hK
      refine ⟨o,ho,by unfold Ob; rw [hki']; exact ⟨h1,tt,ad,vo,h2,h0,h3,h4,h5⟩,fun v _=>?_⟩
      obtain ⟨o',tt',ad',vo',ho',hop',hdn⟩:=g.es i b t m hin hki'
      obtain rfl : o = o':=Option.some.inj (ho.symm.trans ho')
      have hip:=invA_put (u:=v) g hin ho hi'
      have hpa : a'.put o.dst v = a':=by rw [hdn]; rfl
      rw [<-hpa] at h6
      refine go F B _ v ⟨hip.f,hip.b1,hip.b,fun x hx=>?_⟩ (by rw [hpa] at h6 ⊢; exact h6)
      rcases List.mem_append.1 hx with hx | hx
      ·exact hip.c x hx
      ·obtain rfl:=List.mem_singleton.1 hx
       rw [hpa]
       exact .inr ⟨i,b,m,o,tt,ad,vo,Nat.lt_succ_self _,hki',ho,h2,rfl,rfl⟩) h
  rw [ht] at this
  exact this
theorem eachOp_of {p : Nat->Oper->Prop} : ∀{l : List Oper} {k : Nat},(∀i o,l[i]? = some o->p (k + i) o)->EachOp p k l
 | [],_,_=>trivial
 | o :: l,k,h=>⟨h 0 o sI,eachOp_of fun i o ho=>by
  have:=h (i + 1) o (by simpa using ho)
  rwa [show k + (i + 1) = k + 1 + i by omega] at this⟩
theorem SI.start {E : Act->World->Prop} {R : World->Prop} {l : List Oper} {pl : Plan} {T0 : Array Value} {ds : List Deferred} (hR : ∀w,BelD (esD pl) W w->R w) (g : Good l.toArray (kdOf W.heap.size pl) (alOf pl) W.heap.size n T0.size) (he : EsOk W pl) (hn : n<=l.length) (hp : planAsc n 0 pl = true) (h : ser P l.toArray W R E 0 pl (l.take n) [] [] [] ⟨T0,ds⟩) :
  SI P l.toArray (kdOf W.heap.size pl) (alOf pl) (esD pl) W n T0.size (EndE l.toArray (kdOf W.heap.size pl) (alOf pl) (esD pl) W n E) ds (Array.replicate l.length false) T0 W.drew:=by
 have hno : ∀j,(Array.replicate l.length false)[j]? ≠ some true:=fun j hl=>by
  rw [Array.getElem?_replicate] at hl
  split at hl <;> simp at hl
 refine ⟨rfl,BelD.of (dr _),fun j hj hl=>absurd hl (hno j),fun j hj hl=>absurd hl (hno j),fun i j _ _ _ _ _ hl=>absurd hl (hno i),fun j hj hl=>absurd hl (hno j),fun j b t m hj hk=>?_,fun _=>dr _,List.range' 0 n,List.pairwise_lt_range',fun i hi=>by have:=List.mem_range'_1.1 hi; omega,fun i hi=>⟨fun _=>hno i,fun _=>List.mem_range'_1.2 ⟨by omega,by omega⟩⟩,?_⟩
 ·obtain ⟨p,h1,h2,-⟩:=kdOf_mem (n0:=W.heap.size) (pl:=pl) (i:=j) (by rw [hk]; intro e; cases e)
  rw [hk] at h2
  cases p <;> first | cases h2 | skip
  obtain ⟨h3,cs,h4,h5⟩:=(esOk_of he).1 _ _ _ _ h1
  exact ⟨(Array.getElem?_eq_some_iff.1 h4).1,h3,cs,h4,h5⟩
 ·have:=ser_SS hR g (by simpa using hn) pl 0 (l.take n) [] [] [] ⟨T0,ds⟩ oM (by rw [List.length_take]; omega) (fun j hj=>by
    rw [List.length_take] at hj
    rw [List.getElem?_take_of_lt oM,Nat.zero_add]
    simp) hp (fun j _=>rfl) (fun j _=>rfl) rfl ⟨fun p hp=>(by cases hp),List.Pairwise.nil,fun p hp=>(by cases hp),fun p hp=>(by cases hp)⟩ h
  exact this
theorem SI.fin {E : Act->World->Prop} {ds : List Deferred} {L : Array Bool} {T : Array Value} {w : World} (h : SI P ops kd al D W n N (EndE ops kd al D W n E) ds L T w) (hL : ∀j,j < n->L[j]? = some true) : E ⟨T,ds⟩ w:=by
 obtain ⟨-,hb,hf,hst,hfar,hest,-,-,r,-,hn,hr,hS⟩:=h
 cases r with
 | cons i r=>exact absurd (hL i (hn i sI)) ((hr i (hn i sI)).1 sI)
 | nil=>exact hS w hb (fun j hj=>hf j hj (hL j hj)) (fun j hj=>hst j hj (hL j hj)) (fun j hj=>hest j hj (hL j hj)) fun i j hi hj hne ha ha' _ _=>hfar i j hi hj hne ha ha' (hL i hi) (hL j hj)
theorem wp_serE {id : Nat} {l : List Oper} {T0 : Array Value} {ds : List Deferred} {Q : Exit->Act->World->Prop} (pl : Plan) (R : World->Prop) (hR : ∀w,BelD (esD pl) W w->R w) (h : ser P l.toArray W R (fun a w=>Q .normal a w) 0 pl l [] [] [] ⟨T0,ds⟩) (he : EsOk W pl) (hB : serB l.toArray l.length T0.size pl = true) (hl : LastsPl W.heap.size pl pl) (hm : P.follows .mixedOrders = true) : (Code.region id l.toArray true).wp P Q ⟨T0,ds⟩ W:=by
 have g:=good_of hB hl (esOk_of he).2
 have hp : planAsc l.length 0 pl = true:=by unfold serB at hB; simp only [Bool.and_eq_true] at hB; exact hB.1.2
 have hb : edgesBack l.toArray = true:=by unfold serB at hB; simp only [Bool.and_eq_true] at hB; exact hB.1.1.1
 refine wp_region_each hm _ hb (SI.start hR g he (Nat.le_refl _) hp (by rw [List.take_length]; exact h)) (fun T w hI=>SI.fin hI fun j hj=>by simp [hj]) (eachOp_of fun i o ho=>?_)
 rw [Nat.zero_add]
 exact SI.step g (by simpa using ho) (List.getElem?_eq_some_iff.1 ho).1
theorem wp_serHE {id : Nat} {l : List Oper} {T0 : Array Value} {ds : List Deferred} {Q : Exit->Act->World->Prop} {tl : List Oper} (n : Nat) (pl : Plan) (R : World->Prop) (hR : ∀w,BelD (esD pl) W w->R w) (ht : l.drop n = tl) (h : ser P l.toArray W R (fun a w=>wpList P l.toArray Q tl a w) 0 pl (l.take n) [] [] [] ⟨T0,ds⟩) (he : EsOk W pl) (hH : headB l n = true) (hB : serB l.toArray n T0.size pl = true) (hl : LastsPl W.heap.size pl pl) (hm : P.follows .mixedOrders = true) : (Code.region id l.toArray true).wp P Q ⟨T0,ds⟩ W:=by
 obtain rfl:=ht
 have g:=good_of hB hl (esOk_of he).2
 have hp : planAsc n 0 pl = true:=by unfold serB at hB; simp only [Bool.and_eq_true] at hB; exact hB.1.2
 have hn : n < l.length:=by
  unfold headB at hH
  simp only [Bool.and_eq_true,decide_eq_true_eq] at hH
  exact hH.1.1.1.1
 refine wp_region_headed n hm _ hH (SI.start hR g he (Nat.le_of_lt hn) hp h) (fun T w hI=>SI.fin hI fun j hj=>by unfold headL; simp [List.getElem?_append,hj]) (eachOp_of fun i o ho=>?_)
 rw [Nat.zero_add]
 have hi:=(List.getElem?_eq_some_iff.1 ho).1
 rw [List.length_take] at hi
 rw [List.getElem?_take_of_lt oM] at ho
 exact SI.step g (by simpa using ho) oM
theorem esOk_no : ∀{pl : Plan},noEs pl = true->EsOk W pl
 | [],_=>trivial
 | (_,p) :: pl,h=>by
  have hrest : noEs pl = true:=by cases p <;> first | exact h | cases h
  have:=esOk_no (pl:=pl) hrest
  cases p <;> first | exact this | cases h
theorem below_no {pl : Plan} (h : noEs pl = true) (w : World) (hw : BelD (esD pl) W w) : Below W.heap.size W w:=hw.bel _ (Nat.le_refl _) fun k hd=>absurd hd (esD_no h k)
theorem wp_ser {id : Nat} {l : List Oper} {T0 : Array Value} {ds : List Deferred} {Q : Exit->Act->World->Prop} (pl : Plan) (h : ser P l.toArray W (fun w=>Below W.heap.size W w) (fun a w=>Q .normal a w) 0 pl l [] [] [] ⟨T0,ds⟩) (hB : serB l.toArray l.length T0.size pl = true:=by kernel_rfl)
  (hl : LastsPl W.heap.size pl pl:=by repeat' (first | exact trivial | assumption | exact fun _ _ _ _ h=>h | exact fun _ _ _ b h=>h.below b | exact fun _ _ _ b h=>h.ext (lx b) | (refine lastsB_of ?_; assumption) | exact fun _ _ _ _ _ _ _ _ _ h=>h | exact lastsW_of dE (lasts_int _) | exact lastsW_of dE (by assumption) | refine ⟨?_,?_⟩)) (hE : noEs pl = true:=by rfl) (hm : P.follows .mixedOrders = true:=by rfl) : (Code.region id l.toArray true).wp P Q ⟨T0,ds⟩ W:=
 wp_serE pl _ (below_no hE) h (esOk_no hE) hB hl hm
theorem wp_serH {id : Nat} {l : List Oper} {T0 : Array Value} {ds : List Deferred} {Q : Exit->Act->World->Prop} {tl : List Oper} (n : Nat) (pl : Plan) [ht : DropR n l tl] (h : ser P l.toArray W (fun w=>Below W.heap.size W w) (fun a w=>wpList P l.toArray Q tl a w) 0 pl (l.take n) [] [] [] ⟨T0,ds⟩) (hH : headB l n = true:=by kernel_rfl) (hB : serB l.toArray n T0.size pl = true:=by kernel_rfl)
  (hl : LastsPl W.heap.size pl pl:=by repeat' (first | exact trivial | assumption | exact fun _ _ _ _ h=>h | exact fun _ _ _ b h=>h.below b | exact fun _ _ _ b h=>h.ext (lx b) | (refine lastsB_of ?_; assumption) | exact fun _ _ _ _ _ _ _ _ _ h=>h | exact lastsW_of dE (lasts_int _) | exact lastsW_of dE (by assumption) | refine ⟨?_,?_⟩)) (hE : noEs pl = true:=by rfl) (hm : P.follows .mixedOrders = true:=by rfl) : (Code.region id l.toArray true).wp P Q ⟨T0,ds⟩ W:=
 wp_serHE n pl _ (below_no hE) ht.eq h (esOk_no hE) hH hB hl hm
def EsGe (B : Nat) : Plan->Prop
 | []=>True
 | (_,.es c _ _) :: pl=>B<=c/\EsGe B pl
 | (_,_) :: pl=>EsGe B pl
theorem esGe_of {B : Nat} : ∀{pl : Plan},EsGe B pl->∀k,esD pl k->B<=k
 | [],_,k,h=>h.elim
 | (_,p) :: pl,h,k,hk=>by
  cases p <;> first | exact esGe_of (pl:=pl) h k hk | skip
  rcases hk with rfl | hk
  ·exact h.1
  ·exact esGe_of (pl:=pl) h.2 k hk
theorem esNe_D {b : Nat} : ∀{pl : Plan},EsNe b pl->¬ esD pl b
 | [],_,h=>h
 | (_,p) :: pl,h,hk=>by
  cases p <;> first | exact esNe_D (pl:=pl) h hk | skip
  rcases hk with hk | hk
  ·exact h.1 hk
  ·exact esNe_D (pl:=pl) h.2 hk
def esTy : Plan->Bool
 | []=>true
 | (_,.es _ t _) :: pl=>!(t == tU) && esTy pl
 | (_,_) :: pl=>esTy pl
theorem esTy_of : ∀{pl : Plan},EsOk W pl->esTy pl = true->∀k,esD pl k->∃t cs,Blk W k t cs/\t ≠ tU
 | [],_,_,k,h=>h.elim
 | (_,p) :: pl,h,ht,k,hk=>by
  cases p <;> first | exact esTy_of (pl:=pl) h ht k hk | skip
  simp only [esTy,Bool.and_eq_true,Bool.not_eq_true',beq_eq_false_iff_ne] at ht
  rcases hk with rfl | hk
  ·obtain ⟨cs,h1,-⟩:=h.1
   exact ⟨_,cs,h1,ht.1⟩
  ·exact esTy_of (pl:=pl) h.2.2 ht.2 k hk
structure SWe (pl : Plan) (W w : World) : Prop where
 d : BelD (esD pl) W w
 lext : LExt W w
theorem SWe.of {pl : Plan} (he : EsOk W pl) (ht : esTy pl = true) (w : World) (h : BelD (esD pl) W w) : SWe pl W w:=⟨h,fun k ls fz hk=>by
 refine (h.block k (Array.getElem?_eq_some_iff.1 hk).1 fun hd=>?_).trans hk
 obtain ⟨t,cs,h1,h2⟩:=esTy_of he ht k hd
 unfold Blk at h1
 rw [h1] at hk
 injection hk with hk
 injection hk with _ hk _
 exact h2 hk⟩
theorem SWe.bel {pl : Plan} {w : World} (h : SWe pl W w) (B : Nat) (hB : B<=W.heap.size:=by omega) (hD : EsGe B pl:=by repeat' (first | exact trivial | omega | refine ⟨?_,?_⟩)) : Below B W w:=h.d.bel B hB (esGe_of hD)
theorem SWe.old {pl : Plan} {w : World} (h : SWe pl W w) (k : Nat) (hk : k < W.heap.size:=by omega) (hD : EsNe k pl:=by repeat' (first | exact trivial | omega | refine ⟨?_,?_⟩)) : w.heap[k]? = W.heap[k]?:=h.d.block k hk (esNe_D hD)
theorem SWe.cell {pl : Plan} {w : World} (h : SWe pl W w) {b o : Nat} {v : Value} (hc : W.cell? ⟨b,o,none⟩ = some v) (hD : EsNe b pl:=by repeat' (first | exact trivial | omega | refine ⟨?_,?_⟩)) : w.cell? ⟨b,o,none⟩ = some v:=
 (World.cell?_of_block (h.d.block b (World.block_lt_of_cell? W ⟨b,o,none⟩ hc) (esNe_D hD))).trans hc
theorem wp_ses {id : Nat} {l : List Oper} {T0 : Array Value} {ds : List Deferred} {Q : Exit->Act->World->Prop} (pl : Plan) (h : ser P l.toArray W (fun w=>SWe pl W w) (fun a w=>Q .normal a w) 0 pl l [] [] [] ⟨T0,ds⟩) (he : EsOk W pl:=by repeat' (first | exact trivial | exact ⟨_,by assumption,rfl⟩ | omega | refine ⟨?_,?_⟩)) (hB : serB l.toArray l.length T0.size pl = true:=by kernel_rfl)
  (hl : LastsPl W.heap.size pl pl:=by repeat' (first | exact trivial | assumption | exact fun _ _ _ _ h=>h | exact fun _ _ _ b h=>h.below b | exact fun _ _ _ b h=>h.ext (lx b) | (refine lastsB_of ?_; assumption) | exact fun _ _ _ _ _ _ _ _ _ h=>h | exact lastsW_of dE (lasts_int _) | exact lastsW_of dE (by assumption) | refine ⟨?_,?_⟩)) (ht : esTy pl = true:=by kernel_rfl) (hm : P.follows .mixedOrders = true:=by rfl) : (Code.region id l.toArray true).wp P Q ⟨T0,ds⟩ W:=
 wp_serE pl _ (SWe.of he ht) h he hB hl hm
theorem sRq {K : Act->Prop} {o : Oper} {r : List Oper} {a : Act} (h : ∀K' : Act->Prop,(∀a,qrun P ops W K r a->K' a)->if Region.wanted o (yielded ops a.tmps) then o.still P a W K' else K' (a.put o.dst undef))
  (hok : (!Region.wanted o (yielded ops a.tmps) || okOp P a.eval o) = true:=by kernel_rfl) : qrun P ops W K (o :: r) a:=by
 refine ⟨fun hw=>by rw [hw] at hok; simpa using hok,h _ fun _ h=>h⟩
theorem sR0 {a : Act} : qrun P ops W (fun b=>b = a) [] a:=rfl
theorem sRd {K : Act->Prop} {l : List Oper} {a a' : Act} (h : qrun P ops W K [] a') (hq : qrun P ops W (fun b=>b = a') l a:=by (repeat (refine sRq (fun K hK=>?_); go_simp; refine hK _ ?_; clear hK K)); exact sR0) : qrun P ops W K l a:=by
 have : ∀(l : List Oper) (a : Act),qrun P ops W (fun b=>b = a') l a->qrun P ops W K l a:=fun l=>by
  induction l with
  | nil=>intro a hq; exact (show a = a' from hq) ▸ h
  | cons o l ih=>
   intro a hq
   refine ⟨hq.1,?_⟩
   have h2:=hq.2
   split
   ·rename_i hw
    rw [if_pos hw] at h2
    exact Oper.still_mono (fun b hb=>ih b hb) h2
   ·rename_i hw
    rw [if_neg hw] at h2
    exact ih _ h2
 exact this l a hq
structure SWd (W w : World) : Prop where
 bel : Below W.heap.size W w
theorem SWd.old {w : World} (h : SWd W w) (k : Nat) (hk : k < W.heap.size) (_ : True) : w.heap[k]? = W.heap[k]?:=h.bel.block k hk
theorem SWd.lext {w : World} (h : SWd W w) : LExt W w:=lx h.bel
theorem SWd.cell {w : World} (h : SWd W w) {b o : Nat} {v : Value} (hc : W.cell? ⟨b,o,none⟩ = some v) : w.cell? ⟨b,o,none⟩ = some v:=kc_below hc h.bel
section
variable {i : Nat} {F : Facts} {B : Boxes} {C : Conts} {next : Facts->Boxes->Conts->List Oper->Act->Prop} {o : Oper} {r : List Oper} {a : Act}
theorem sRc {cs : List Nat} {G : World->Value->Prop}
  (h1 : ∀w,SWd W w->FD cs F w (∀Gk : World->Value->Prop,(∀w v,G w v->Gk w v)->gives P o a w Gk)) (h2 : ∀v,(∃w,SWd W w/\G w v)->next (F ++ [(i,G,v)]) B C r (a.put o.dst v))
  (hw : Region.wanted o (yielded ops a.tmps) = true:=by kernel_rfl) : qrun P ops W (fun a=>serC P ops W (fun w=>Below W.heap.size W w) i F B C next (o :: r) (.call cs G) a) [] a:=
 ⟨⟨hw,fun w hw=>FD_mono (fun h=>h G fun _ _ h=>h) (h1 w ⟨hw⟩)⟩,fun v ⟨w,hw,hg⟩=>h2 v ⟨w,⟨hw⟩,hg⟩⟩
theorem sRg {R : World->Prop} {cs : List Nat} {G : World->Value->Prop}
  (h1 : ∀w,R w->FD cs F w (∀Gk : World->Value->Prop,(∀w v,G w v->Gk w v)->gives P o a w Gk)) (h2 : ∀v,(∃w,R w/\G w v)->next (F ++ [(i,G,v)]) B C r (a.put o.dst v))
  (hw : Region.wanted o (yielded ops a.tmps) = true:=by kernel_rfl) : qrun P ops W (fun a=>serC P ops W R i F B C next (o :: r) (.call cs G) a) [] a:=
 ⟨⟨hw,fun w hw=>FD_mono (fun h=>h G fun _ _ h=>h) (h1 w hw)⟩,h2⟩
theorem sRx {R : World->Prop} {b m : Nat} {t tt : TypeId} {ad vo : Operand} (v : Value) (h : next F B (C ++ [(ptr b,t,v.cells)]) r a) (h3 : flatB v = true:=by kernel_rfl) (hop : o.op = .store tt ad vo:=by rfl) (h1 : tyCells P tt = some m:=by kernel_rfl) (h2 : v.cells.size = m:=by kernel_rfl)
  (hb : a.eval ad = ptr b:=by kernel_rfl) (hv : a.eval vo = v:=by kernel_rfl) (hw : Region.wanted o (yielded ops a.tmps) = true:=by kernel_rfl) : qrun P ops W (fun a=>serC P ops W R i F B C next (o :: r) (.es b t m) a) [] a:=
 ⟨hw,tt,ad,vo,hop,hb,h1,by rw [hv]; exact h2,by rw [hv]; exact h3,by rw [hv]; exact h⟩
theorem gives_box {w : World} {t : TypeId} {m : Nat} {cs : Array Value} (h : (execOp a.eval o).run P w = .ok (.value (ptr w.heap.size)) (w.alloc (.cells cs t (0,0)))) (hm : cs.size = m) : gives P o a w fun w2 v=>v = ptr w.heap.size/\∃cs,Blk w2 w.heap.size t cs/\cs.size = m:=by
 unfold gives
 rw [h]
 exact ⟨⟨rfl,cs,Blk.new _ _ _,hm⟩,(Below.refl _ _).alloc (Nat.le_refl _) _⟩
theorem sRa {R : World->Prop} {t : TypeId} {m : Nat} {cs : Array Value} (h2 : ∀b,W.heap.size<=b->next F (B ++ [(i,b)]) C r (a.put o.dst (ptr b)))
  (h1 : ∀w,(execOp a.eval o).run P w = .ok (.value (ptr w.heap.size)) (w.alloc (.cells cs t (0,0))):=by intro w; unfold ptr; go_simp <;> rfl) (hm : cs.size = m:=by rfl)
  (hw : Region.wanted o (yielded ops a.tmps) = true:=by kernel_rfl) : qrun P ops W (fun a=>serC P ops W R i F B C next (o :: r) (.al t m) a) [] a:=
 ⟨⟨hw,fun w _=>gives_box (h1 w) hm⟩,h2⟩
theorem sRs {R : World->Prop} {ai : Nat} {t tt : TypeId} {m : Nat} {ad : Tmp} {vo : Operand} (b : Nat) (v : Value) (h : next F B (C ++ [(ptr b,t,v.cells)]) r a) (h3 : flatB v = true:=by kernel_rfl) (hop : o.op = .store tt (.tmp ad) vo:=by rfl) (h1 : tyCells P tt = some m:=by kernel_rfl) (h2 : v.cells.size = m:=by kernel_rfl)
  (hb : a.eval (.tmp ad) = ptr b:=by kernel_rfl) (hv : a.eval vo = v:=by kernel_rfl) (hw : Region.wanted o (yielded ops a.tmps) = true:=by kernel_rfl) : qrun P ops W (fun a=>serC P ops W R i F B C next (o :: r) (.st ai t m) a) [] a:=
 ⟨hw,tt,ad,vo,hop,h1,by rw [hv]; exact h2,by rw [hv]; exact h3,by rw [hb,hv]; exact h⟩
end
theorem boxI {R : World->Prop} {v : Value} {z : Int} (h : ∃w,R w/\IntV w v z) : ∃x y,v = .agg #[x,y]/\flatB (.agg #[x,y]) = true:=by
 obtain ⟨w,-,s,a,l,c,x,rfl,-⟩:=h
 exact ⟨_,_,rfl,by kernel_rfl⟩
theorem ck {f : FuncId} {args : Array Value} {w : World} {G Gk : World->Value->Prop} (hG : ∀w v,G w v->Gk w v) (h : Calls P f args w fun e w2=>∃v,e = .returned v/\G w2 v/\Below w.heap.size w w2) : Calls P f args w fun e w2=>∃v,e = .returned v/\Gk w2 v/\Below w.heap.size w w2:=
 h.mono fun _ _ ⟨v,h1,h2,h3⟩=>⟨v,h1,hG _ _ h2,h3⟩
theorem sRe {E : Act->World->Prop} {F : Facts} {a : Act} (h : ∀w,Below W.heap.size W w->FA F w (E a w)) : qrun P ops W (fun a=>∀w,Below W.heap.size W w->FA F w (FC [] w (FN [] (E a w)))) [] a:=h
theorem sRf {E : Act->World->Prop} {a : Act} (h : ∀w,Below W.heap.size W w->E a w) : qrun P ops W (fun a=>∀w,Below W.heap.size W w->FA [] w (FC [] w (FN [] (E a w)))) [] a:=h
theorem sRb {R : World->Prop} {E : Act->World->Prop} {F : Facts} {B : Boxes} {C : Conts} {a : Act} (h : ∀w,R w->FA F w (FC C w (FN B (E a w)))) : qrun P ops W (fun a=>∀w,R w->FA F w (FC C w (FN B (E a w)))) [] a:=h
end
abbrev pcI (i : Nat) (z : Int) : Nat × PK:=(i,.call [] fun w v=>IntV w v z)
abbrev pcD (i : Nat) (ds : List Nat) (G : World->Value->Prop) : Nat × PK:=(i,.call ds G)
abbrev pbA (i : Nat) (t : TypeId) (m : Nat) : Nat × PK:=(i,.al t m)
abbrev pbE (i b : Nat) (t : TypeId) (m : Nat) : Nat × PK:=(i,.es b t m)
abbrev pbS (i ai : Nat) (t : TypeId) (m : Nat) : Nat × PK:=(i,.st ai t m)
attribute [go_sem] gives givesR
end Go.Proofs.YtjdemlfceaikgaaGreat
