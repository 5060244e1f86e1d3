/- Joined. -/
import Derived.Test.YtniiekppgdkknaaGreatM02
import Derived.Test.YtniiekppgdkknaaGreatM03
set_option linter.unusedVariables false
set_option linter.unusedSimpArgs false
set_option linter.unusedSectionVars false
set_option maxHeartbeats 16000000
set_option maxRecDepth 100000
variable{a:Go.Act}{L:Array Bool}{ops:Array Go.Oper}{T0 cs cs':Array Go.Value}{Q:Go.Exit->Go.Act->Go.World->Prop}{r:List Nat}{l tl:List Go.Oper}{b i id j k m n0:Nat}{D:Nat->Prop}{o o':Go.Oper}{t tt:Go.TypeId}{u v:Go.Value}{W w:Go.World}
namespace Go.Proofs.YtniiekppgdkknaaGreat
open Go.RowKit
def zAA(P:World->Value->Prop):Prop:=∀w w' v,BWq w w'->P w v->P w' v
theorem zH8{G:World->Value->Prop}(h:zGf G):zAA G:=fun _ _ _ b a=>h _ _ _ (lx b) a
theorem zOJ{P:Program}{ρ b:Operand->Value}(h:∀x∈o.op.operands,ρ x=b x):zLo P ρ o=zLo P b o:=by
 obtain⟨g,a,j,pos,f,i⟩:=o;cases a<;>first|rfl|skip
 case binOp a t x y u=>simp only[Op.operands]at h;simp only[zLo];rw[h x sI,h y sI]
 case nilCheck x=>simp only[Op.operands]at h;simp only[zLo];rw[h x sI]
 case convert s d x=>simp only[Op.operands]at h;simp only[zLo];rw[h x sI]
 case call c=>
  simp only[Op.operands]at h;simp only[zLo];rw[Array.map_congr_left (xs:=c.args) fun x e=>h x (by unfold Call.operands;simp[e])]
section
variable {P:Program} {ops:Array Oper}
theorem zNL(o:Oper)(a:Act)(b:Option Tmp)(v:Value)(h:∀d,b=some d->d ∉ o.looksAt ops):zLo P (a.put b v).eval o=zLo P a.eval o:=
 zOJ fun x c=>Act.eval_put fun d hd e=>h d hd (by
  subst e
  exact jO _ (List.mem_filterMap.2 ⟨.tmp d,by simpa using c,rfl⟩))
def zTK(P:Program)(w:World)(G:World->Value->Prop):Result Next->Prop
 | .ok (.value v) w'=>G w' v/\BWq w w'
 | .ok (.enter f args) w'=>w'=w/\Calls P f args w fun e w2=>∃v,e= .returned v/\G w2 v/\BWq w w2
 | .ok (.row r args) w'=>w'=w/\Rows P r args w fun v w2=>G w2 v/\BWq w w2
 |_=>False
def zFd(P:Program)(o:Oper)(a:Act)(w:World)(G:World->Value->Prop):Prop:=zTK P w G ((execOp a.eval o).run P w)
theorem zRj{G:World->Value->Prop}{K:Act->World->Prop}{Q:Exit->Act->World->Prop}(h:zFd P o a w G)
  (hK:∀v b,G b v->BWq w b->K (a.put o.dst v) b):o.wp P a w K Q:=by
 unfold zFd at h;unfold Oper.wp;generalize (execOp a.eval o).run P w=r at*;cases r with
 |halt x b=>exact h.elim
 | ok n b=>
  cases n<;>first|exact h.elim|skip
  case value v=>exact hK _ _ h.1 h.2
  case enter f g=>
   obtain⟨rfl,h⟩:=h;exact h.mono fun e j ⟨v,i,d,c⟩=>by subst i;exact hK _ _ d c
  case row f g=>
   obtain⟨rfl,h⟩:=h;exact h.mono fun v j ⟨d,c⟩=>hK _ _ d c
theorem zIz{G g:World->Value->Prop}(b:∀w v,G w v->g w v)(h:zFd P o a w G):zFd P o a w g:=by
 unfold zFd at h ⊢
 generalize (execOp a.eval o).run P w=r at*;cases r with
 |halt x k=>exact h.elim
 |ok n k=>
  cases n<;>first|exact h.elim|skip
  case value v=>exact⟨b _ _ h.1,h.2⟩
  case enter f i=>exact⟨h.1,h.2.mono fun e l ⟨v,j,d,c⟩=>⟨v,j,b _ _ d,c⟩⟩
  case row f i=>exact⟨h.1,h.2.mono fun v l ⟨d,c⟩=>⟨b _ _ d,c⟩⟩
theorem zRi{G:World->Value->Prop}(h:zFd P o a w G):∃v w',G w' v/\BWq w w':=by
 unfold zFd at h;generalize (execOp a.eval o).run P w=r at*;cases r with
 |halt x w'=>exact h.elim
 | ok n w'=>
  cases n<;>first|exact h.elim|skip
  case value v=>exact⟨_,_,h.1,h.2⟩
  case enter f d=>
   obtain⟨e,g,-,⟨v,-,c,b⟩,-⟩:=h.2 [];exact⟨_,_,c,b⟩
  case row f d=>
   obtain⟨v,g,⟨c,b⟩,-⟩:=h.2 (Frame.enter P 0 #[] .normal) [];exact⟨_,_,c,b⟩
def wr(w:World)(b:Nat)(t:TypeId)(cs:Array Value):World:={w with heap:=w.heap.setIfInBounds b (.cells cs t (0,0))}
theorem zIb(h:b<w.heap.size):Blk (wr w b t cs) b t cs:=Array.getElem?_setIfInBounds_self_of_lt h
theorem zG7(h:k≠b):(wr w b t cs).heap[k]?=w.heap[k]?:=xgc (zL h)
theorem zS9(h:Below n0 W w)(c:n0<=b):Below n0 W (wr w b t cs):=
 ⟨h.os,h.tape,h.output,by unfold wr;simpa using h.size,fun k a=>(zG7 oM).trans (h.block k a)⟩
theorem zRG(h:Blk w b t cs)(c:t≠tU):zBC w (wr w b t cs'):=fun k f d a=>by
 by_cases e:k=b
 .subst e
  unfold Blk at h;rw[h]at a;injection a with a
  injection a with _ a _
  exact absurd a c
 rw[zG7 e];exact a
structure zHm(D:Nat->Prop)(W w:World):Prop where
 os:w.os=W.os
 tape:w.tape=W.tape
 output:w.output=W.output
 size:W.heap.size<=w.heap.size
 block:∀k,k<W.heap.size->¬ D k->w.heap[k]?=W.heap[k]?
theorem zHm.of(h:BWq W w):zHm D W w:=⟨h.os,h.tape,h.output,h.size,fun k a _=>h.block k a⟩
theorem zHm.add{w':World}(h:zHm D W w)(a:BWq w w'):zHm D W w':=
 ⟨a.os.trans h.os,a.tape.trans h.tape,a.output.trans h.output,zF h.size a.size,fun k b hd=>(a.block k (zI b h.size)).trans (h.block k b hd)⟩
theorem zHm.write(h:zHm D W w)(a:W.heap.size<=b∨D b):zHm D W (wr w b t cs):=
 ⟨h.os,h.tape,h.output,by unfold wr;simpa using h.size,fun k c hd=>(zG7 (by rintro rfl;rcases a with a|a;omega;exact hd a)).trans (h.block k c hd)⟩
theorem zHm.bel(h:zHm D W w)(B:Nat)(b:B<=W.heap.size)(a:∀k,D k->B<=k):Below B W w:=
 ⟨h.os,h.tape,h.output,h.size,fun k c=>h.block k oM fun hd=>by have:=a k hd;omega⟩
def zD8(n0:Nat)(t:TypeId)(m:Nat)(G:World->Value->Prop):Prop:=∀w v b cs cs',n0<=b->Blk w b t cs->cs.size=m->cs'.size=cs.size->G w v->G (wr w b t cs') v
theorem zEE{G:World->Value->Prop}(c:t≠tU)(h:zGf G):zD8 n0 t m G:=fun _ _ _ _ _ _ a _ _ b=>h _ _ _ (zRG a c) b
def zKM(n0:Nat)(t:TypeId)(m:Nat)(w:World)(v:Value):Prop:=∃b cs,v=ptr b/\n0<=b/\Blk w b t cs/\cs.size=m
theorem zN5(n0:Nat)(t:TypeId)(m:Nat):zAA (zKM n0 t m):=fun _ _ _ f ⟨b,cs,a,c,d,e⟩=>⟨b,cs,a,c,d.I f,e⟩
theorem zI7(n0 o:Nat)(t p:TypeId)(m n:Nat):zD8 n0 p n (zKM o t m):=fun w v c q i _ d _ l ⟨b,cs,f,g,a,h⟩=>by
 by_cases e:b=c
 .subst e
  unfold Blk at d a;rw[d]at a;injection a with a
  injection a with j k _
  subst j k;exact⟨b,i,f,g,zIb (Array.getElem?_eq_some_iff.1 d).1,l.trans h⟩
 exact⟨b,cs,f,g,(zG7 e).trans a,h⟩
def zJo(v:Value):Bool:=v.cells.all fun c=>match c with| .agg _| .tuple _=>false|_=>true
def zFF(P:Program)(t:TypeId):Option Nat:=(P.info? t).map (·.size)
inductive Kd where
 |q
 |skip
 |call (ds:List Nat) (G:World->Value->Prop)
 |store (ai:Nat) (t:TypeId) (m:Nat)
 |es (b:Nat) (t:TypeId) (m:Nat)
def zCc(ops:Array Oper)(j:Nat):Option Tmp:=(ops[j]?).bind (·.dst)
def zBX(ops:Array Oper)(kd:Nat->Kd)(j:Nat)(T:Array Value)(w:World):Prop:=
 match kd j with
 | .call _ G=>∀d v,zCc ops j=some d->T[d]?=some v->G w v
 |_=>True
structure zO9(ops:Array Oper)(kd:Nat->Kd)(al:Nat->Bool)(n0 n N:Nat):Prop where
 dst:∀i o d,i<n->ops[i]?=some o->o.dst=some d->d<N
 dstc:∀i o ds G,i<n->ops[i]?=some o->kd i= .call ds G->∃d,o.dst=some d
 inj:∀i j o o' d,i<n->j<n->ops[i]?=some o->ops[j]?=some o'->o.dst=some d->o'.dst=some d->i=j
 look:∀i j o o' d,i<n->j<n->ops[i]?=some o->ops[j]?=some o'->o'.dst=some d->d∈o.looksAt ops->zC6 o j=true
 back:∀i o j,ops[i]?=some o->zC6 o j=true->j<i
 sel:∀i o cs b,i<n->ops[i]?=some o->o.op≠ .select cs b
 deps:∀i ds G,i<n->kd i= .call ds G->∀d∈ds,d<i/\∀(o:Oper) (L:Array Bool),ops[i]?=some o->(∀k,zC6 o k=true->L[k]?=some true)->zCH ops L->L[d]?=some true
 last:∀i ds G,kd i= .call ds G->zAA G
 lastw:∀i ds G j ai t m,kd i= .call ds G->kd j= .store ai t m->zD8 n0 t m G
 sto:∀i ai t m,i<n->kd i= .store ai t m->∃o tt ad vo,ops[i]?=some o/\o.op= .store tt (.tmp ad) vo/\o.dst=none/\ai<n/\zCc ops ai=some ad/\al ai=true/\kd ai= .call [] (zKM n0 t m)/\zC6 o ai=true
 sinj:∀i j ai t m t' m',kd i= .store ai t m->kd j= .store ai t' m'->i=j
 es:∀i b t m,i<n->kd i= .es b t m->∃o tt ad vo,ops[i]?=some o/\o.op= .store tt ad vo/\o.dst=none
 einj:∀i j b t m t' m',kd i= .es b t m->kd j= .es b t' m'->i=j
 rd:∀i o j b t m,i<n->kd i= .q->ops[i]?=some o->zEk o=true->j<n->kd j= .es b t m->∀L:Array Bool,zCH ops L->L[j]?=some true->L[i]?=some true
 laste:∀i ds G j b t m,kd i= .call ds G->kd j= .es b t m->zD8 0 t m G
 alk:∀i,al i=true->∃t m,kd i= .call [] (zKM n0 t m)
variable {kd:Nat->Kd} {al:Nat->Bool} {D:Nat->Prop} {W:World} {n n0 N:Nat}
def Ob(P:Program)(ops:Array Oper)(kd:Nat->Kd)(al:Nat->Bool)(D:Nat->Prop)(W:World)(i:Nat)(o:Oper)(a:Act):Prop:=
 match kd i with
 | .q=>Region.wanted o (yielded ops a.tmps)=true->∃v,zLo P a.eval o=true/\(execOp a.eval o).run P W= .ok (.value v) W
 | .skip=>Region.wanted o (yielded ops a.tmps)=false
 | .call ds G=>Region.wanted o (yielded ops a.tmps)=true/\∀w,zHm D W w->(∀d∈ds,zBX ops kd d a.tmps w)->zFd P o a w fun w2 v=>G w2 v/\(al i=true->∃b,v=ptr b/\w.heap.size<=b)
 | .store _ _ m=>Region.wanted o (yielded ops a.tmps)=true/\∃tt ad vo,o.op= .store tt (.tmp ad) vo/\zFF P tt=some m/\(a.eval vo).cells.size=m/\zJo (a.eval vo)=true
 | .es b _ m=>Region.wanted o (yielded ops a.tmps)=true/\∃tt ad vo,o.op= .store tt ad vo/\a.eval ad=ptr b/\zFF P tt=some m/\(a.eval vo).cells.size=m/\zJo (a.eval vo)=true
def Val(P:Program)(ops:Array Oper)(kd:Nat->Kd)(D:Nat->Prop)(W:World)(n:Nat)(r:List Nat)(i:Nat)(o:Oper)(a:Act)(v:Value):Prop:=
 match kd i with
 | .q=>(Region.wanted o (yielded ops a.tmps)=true/\zLo P a.eval o=true/\(execOp a.eval o).run P W= .ok (.value v) W)∨(Region.wanted o (yielded ops a.tmps)=false/\v=undef)
 | .skip=>Region.wanted o (yielded ops a.tmps)=false/\v=undef
 | .call _ G=>Region.wanted o (yielded ops a.tmps)=true/\∃w,zHm D W w/\(∀j,j<n->j ∉ r->j≠i->zBX ops kd j a.tmps w)/\G w v
 | .store _ _ _=>v=undef
 | .es _ _ _=>v=undef
def SS(P:Program)(ops:Array Oper)(kd:Nat->Kd)(al:Nat->Bool)(D:Nat->Prop)(W:World)(n:Nat)(E:Act->Prop):List Nat->Act->Prop
 | [],a=>E a
 |i::r,a=>∃o,ops[i]?=some o/\Ob P ops kd al D W i o a/\∀v,Val P ops kd D W n r i o a v->SS P ops kd al D W n E r (a.put o.dst v)
theorem zF5{d:Tmp}(h:d<a.tmps.size):(a.put (some d) v).tmps[d]?=some v:=Array.getElem?_setIfInBounds_self_of_lt h
theorem zKz{d e:Tmp}(h:d≠e):(a.put (some d) v).tmps[e]?=a.tmps[e]?:=xgc h
theorem zGQ{d:Option Tmp}:(a.put d v).tmps.size=a.tmps.size:=by cases d<;>simp[Act.put]
theorem zSV{d e:Option Tmp}(h:∀x,d=some x->e≠some x):(a.put d u).put e v=(a.put e v).put d u:=by
 cases d with
 |none=>rfl
 | some x=>
  cases e with
  |none=>rfl
  |some y=>
   simp only[Act.put];rw[Array.setIfInBounds_comm _ _ (fun e=>h x rfl (by rw[e]))]
theorem zEa{a:Act}{u:Value}{w:World}(g:zO9 ops kd al n0 n N)(h:i<n)(k:j<n)(m:ops[i]?=some o)(l:j≠i):
  zBX ops kd j (a.put o.dst u).tmps w↔zBX ops kd j a.tmps w:=by
 cases hd:o.dst with
 |none=>exact zCS
 |some d=>
 unfold zBX;split
 .refine forall_congr' fun e=>forall_congr' fun v=>imp_congr_right fun b=>?_
  have f:d≠e:=by
   rintro rfl;unfold zCc at b;cases c:ops[j]? with
   |none=>rw[c]at b;cases b
   |some o'=>
    rw[c]at b;exact l (g.inj j i o' o d k h c m b hd)
  rw[zKz f]
 exact zCS
theorem zCx{b:Option Tmp}{x:Operand}(h:∀d,b=some d->d ∉ o.looksAt ops)(c:x∈o.op.operands):(a.put b v).eval x=a.eval x:=
 Act.eval_put fun d hd e=>h d hd (by
  subst e
  exact jO _ (List.mem_filterMap.2 ⟨.tmp d,by simpa using c,rfl⟩))
theorem zTQ{a:Act}{u:Value}(g:zO9 ops kd al n0 n N)(h:i<n)(q:k<n)(l:ops[i]?=some o)(t:ops[k]?=some o')(z:¬ zC6 o k=true)(hd:∀c G,kd i= .call c G->k ∉ c):
  Ob P ops kd al D W i o (a.put o'.dst u)↔Ob P ops kd al D W i o a:=by
 have f:∀d,o'.dst=some d->d ∉ o.looksAt ops:=fun d v y=>z (g.look i k o o' d h q l t v y)
 unfold Ob;rw[wanted_put o a _ u f,zNL o a _ u f,execOp_put o (fun cs b=>g.sel i o cs b h l) a _ u f];split;exact zCS;exact zCS
 .rename_i c G r
  refine and_congr_right fun _=>forall_congr' fun w=>imp_congr_right fun _=>?_
  have:(∀d∈c,zBX ops kd d (a.put o'.dst u).tmps w)↔∀d∈c,zBX ops kd d a.tmps w:=
   forall_congr' fun d=>imp_congr_right fun s=>zEa g q (by have:=(g.deps i c G h r d s).1;omega) t (fun e=>hd c G r (e ▸ s))
  rw[this];unfold zFd;rw[execOp_put o (fun cs b=>g.sel i o cs b h l) a _ u f]
 .refine and_congr_right fun _=>exists_congr fun tt=>exists_congr fun p=>exists_congr fun m=>and_congr_right fun j=>?_
  rw[zCx (x:=m) f (by rw[j];simp[Op.operands])]
 refine and_congr_right fun _=>exists_congr fun tt=>exists_congr fun p=>exists_congr fun m=>and_congr_right fun j=>?_
 rw[zCx (x:=m) f (by rw[j];simp[Op.operands]),zCx (x:=p) f (by rw[j];simp[Op.operands])]
theorem zVo(g:zO9 ops kd al n0 n N){E:Act->Prop}{k:Nat}{F:Oper}(S:k<n)(L:ops[k]?=some F):
  ∀(r:List Nat) (a:Act) (m:World),r.Pairwise (· < ·)->(∀i∈r,i<n)->k∈r->(∀j,zC6 F j=true->j ∉ r)->(∀c G,kd k= .call c G->∀d∈c,d ∉ r)->a.tmps.size=N->zHm D W m->
   (∀j,j<n->j ∉ r->zBX ops kd j a.tmps m)->SS P ops kd al D W n E r a->Ob P ops kd al D W k F a
 | [],_,_,_,_,h,_,_,_,_,_,_=>by cases h
 | i ::r,a,m,M,T,p,V,R,U,I,K,h=>by
  obtain⟨o,z,s,X⟩:=h;by_cases e:i=k
  .subst e
   obtain rfl:o=F:=qC (z.symm.trans L);exact s
  have w:i<n:=T i sI;have a0:k∈r:=by
   rcases List.mem_cons.1 p with h|h
   exact absurd h.symm e;exact h
  have a2:i ∉ r:=fun h=>by
   have:=List.rel_of_pairwise_cons M h;omega
  have l:∃u t,Val P ops kd D W n r i o a u/\BWq m t/\∀c G,kd i= .call c G->G t u:=by
   unfold Ob at s;unfold Val;split at s
   .rename_i f
    cases O:Region.wanted o (yielded ops a.tmps)with
    |true=>
     obtain⟨v,H,A⟩:=s O;exact⟨v,m,.inl ⟨rfl,H,A⟩,zB _ _,fun c G b=>by rw[f]at b;cases b⟩
    |false=>exact⟨undef,m,.inr ⟨rfl,rfl⟩,zB _ _,fun c G b=>by rw[f]at b;cases b⟩
   .rename_i f
    exact⟨undef,m,⟨s,rfl⟩,zB _ _,fun c G b=>by rw[f]at b;cases b⟩
   .rename_i c G f
    obtain⟨v,t,⟨H,-⟩,A⟩:=zRi (s.2 m I fun d hd=>K d (by have:=(g.deps i c G w f d hd).1;omega) fun p=>by
     have a3:=(g.deps i c G w f d hd).1;rcases List.mem_cons.1 p with h|h
     omega;have:=List.rel_of_pairwise_cons M h;omega)
    refine⟨v,t,⟨s.1,t,I.add A,fun j q y x=>?_,H⟩,A,fun C B b=>?_⟩
    .have:=K j q (fun p=>by rcases List.mem_cons.1 p with h|h;exact x h;exact y h)
     unfold zBX at this ⊢
     split at this
     .rename_i C B b
      exact fun d v hd l=>g.last j C B b _ _ _ A (this d v hd l)
     trivial
    rw[f]at b;injection b with _ b
    exact b ▸ H
   .rename_i f
    exact⟨undef,m,rfl,zB _ _,fun c G b=>by rw[f]at b;cases b⟩
   rename_i f;exact⟨undef,m,rfl,zB _ _,fun c G b=>by rw[f]at b;cases b⟩
  obtain⟨u,t,hu,Q,Y⟩:=l;have a1:=X u hu;have:=zVo g S L r (a.put o.dst u) t (List.Pairwise.of_cons M) (fun j q=>T j (qG _ q)) a0 (fun j q y=>V j q (qG _ y))
   (fun c G b d hd Z=>R c G b d hd (qG _ Z)) (by rw[zGQ];exact U) (I.add Q) (fun j q y=>by
    by_cases x:j=i
    .subst x
     unfold zBX;split
     .rename_i c G b
      intro e v J l;have hd:o.dst=some e:=by
       unfold zCc at J;rw[z]at J;exact J
      rw[hd,zF5 (a:=a) (by rw[U];exact g.dst j o e w z hd)]at l;injection l with l
      exact l ▸ Y c G b
     trivial
    rw[zEa g w q z x];have:=K j q (fun p=>by rcases List.mem_cons.1 p with h|h;exact x h;exact y h);unfold zBX at this ⊢
    split at this
    .rename_i C B b
     exact fun d v hd l=>g.last j C B b _ _ _ Q (this d v hd l)
    trivial) a1
  exact(zTQ g S w L z (fun O=>V i O sI) (fun c G b p=>R c G b i p sI)).1 this
theorem zUw{e:List Nat}(h:Val P ops kd D W n r i o a v)(d:∀b G,kd i≠ .call b G):Val P ops kd D W n e i o a v:=by
 unfold Val at h ⊢
 split at h;exact h;exact h;rename_i b G c;exact absurd c (d b G);exact h;exact h
theorem zM0{r:List Nat}{a:Act}{u v:Value}(g:zO9 ops kd al n0 n N)(f:i<n)(p:k<n)(j:ops[i]?=some o)(s:ops[k]?=some o')(q:¬ zC6 o k=true)(hc:∀c G,kd i≠ .call c G):
  Val P ops kd D W n r i o (a.put o'.dst u) v↔Val P ops kd D W n r i o a v:=by
 have e:∀d,o'.dst=some d->d ∉ o.looksAt ops:=fun d l m=>q (g.look i k o o' d f p j s l m)
 unfold Val;rw[wanted_put o a _ u e,zNL o a _ u e,execOp_put o (fun cs b=>g.sel i o cs b f j) a _ u e];split;exact zCS;exact zCS;rename_i c G h;exact absurd h (hc c G);exact zCS;exact zCS
theorem zSQ(g:zO9 ops kd al n0 n N){E:Act->Prop}{k:Nat}{c:Oper}(p:k<n)(l:ops[k]?=some c):
  ∀(r:List Nat) (a:Act) (v:Value),r.Pairwise (· < ·)->(∀i∈r,i<n)->k∈r->(∀j,zC6 c j=true->j ∉ r)->a.tmps.size=N->SS P ops kd al D W n E r a->Val P ops kd D W n (r.erase k) k c a v->
   SS P ops kd al D W n E (r.erase k) (a.put c.dst v)
 | [],_,_,_,_,h,_,_,_,_=>by cases h
 | i :: r,a,v,U,hn,B,hw,V,h,m=>by
  obtain⟨o,f,z,s⟩:=h;by_cases e:i=k
  .subst e
   obtain rfl:o=c:=qC (f.symm.trans l);rw[List.erase_cons_head]at m ⊢
   exact s v m
  have t:i<n:=hn i sI;have R:k∈r:=by
   rcases List.mem_cons.1 B with h|h
   exact absurd h.symm e;exact h
  have a7:i<k:=List.rel_of_pairwise_cons U R;have a2:=List.Pairwise.of_cons U;have a1:r.Nodup:=a2.imp (fun h=>by omega);have a4:∀x,o.dst=some x->c.dst≠some x:=fun x z s=>e (g.inj i k o c x t p f l z s)
  have T:¬ zC6 o k=true:=fun q=>by have:=g.back i o k f q;omega
  have J:¬ zC6 c i=true:=fun q=>hw i q sI
  have a5:(i::r).erase k=i::r.erase k:=List.erase_cons_tail (by simp[e]);rw[a5]at m ⊢
  have a8:i ∉ r:=fun h=>by
   have:=List.rel_of_pairwise_cons U h;omega
  refine⟨o,f,(zTQ g t p f l T (fun b G hc a6=>by have:=(g.deps i b G t hc k a6).1;omega)).2 z,fun u hu=>?_⟩;have a3:Val P ops kd D W n r i o a u/\Val P ops kd D W n (r.erase k) k c (a.put o.dst u) v:=by
   by_cases H:∃b G,kd i= .call b G
   .obtain⟨b,G,H⟩:=H
    have hl:∀d,c.dst=some d->d ∉ o.looksAt ops:=fun d z s=>T (g.look i k o c d t p f l z s)
    have K:=hu;unfold Val at K;rw[H]at K;dsimp only at K;obtain⟨p1,w,p2,p3,p4⟩:=K;rw[wanted_put o a _ v hl]at p1;have pf:∀j,j<n->j ∉ r->j≠i->zBX ops kd j a.tmps w:=fun j y F C=>by
     have:=p3 j y (fun B=>F (List.mem_of_mem_erase B)) C;exact(zEa g p y l (fun q=>F (q ▸ R))).1 this
    have Y:zBX ops kd k (a.put c.dst v).tmps w:=p3 k p (fun B=>by rw[a1.mem_erase_iff]at B;exact B.1 rfl) (zL e);constructor
    .unfold Val
     rw[H];exact⟨p1,w,p2,pf,p4⟩
    by_cases A:∃b G,kd k= .call b G
    .obtain⟨a0,Z,A⟩:=A
     unfold Val at m ⊢
     rw[A]at m ⊢
     dsimp only at m ⊢
     have S:∀d,o.dst=some d->d ∉ c.looksAt ops:=fun d z s=>J (g.look k i c o d p t l f z s)
     rw[wanted_put c a _ u S];refine⟨m.1,w,p2,fun j y F Q=>?_,?_⟩
     .by_cases C:j=i
      .subst C
       unfold zBX;rw[H];intro x a9 X L;have hd:o.dst=some x:=by
        unfold zCc at X;rw[f]at X;exact X
       rw[hd,zF5 (a:=a) (by rw[V];exact g.dst j o x t f hd)]at L;injection L with L
       exact L ▸ p4
      rw[zEa g t y f C];exact pf j y (fun B=>F (by rw[a1.mem_erase_iff];exact⟨Q,B⟩)) C
     unfold zBX at Y;rw[A]at Y;obtain⟨dk,O⟩:=g.dstc k c a0 Z p l A;refine Y dk v (by unfold zCc;rw[l];exact O) ?_;rw[O];exact zF5 (a:=a) (by rw[V];exact g.dst k c dk p l O)
    have I:∀b G,kd k≠ .call b G:=fun b G q=>A ⟨b,G,q⟩
    exact(zM0 g p t l f J I).2 (zUw m I)
   have M:∀b G,kd i≠ .call b G:=fun b G q=>H ⟨b,G,q⟩
   refine⟨zUw ((zM0 g t p f l T M).1 hu) M,?_⟩;by_cases A:∃b G,kd k= .call b G
   .obtain⟨a0,Z,A⟩:=A
    unfold Val at m ⊢
    rw[A]at m ⊢
    dsimp only at m ⊢
    have S:∀d,o.dst=some d->d ∉ c.looksAt ops:=fun d z s=>J (g.look k i c o d p t l f z s)
    rw[wanted_put c a _ u S];obtain⟨q1,w,q2,q3,q4⟩:=m;refine⟨q1,w,q2,fun j y F Q=>?_,q4⟩;by_cases C:j=i
    .subst C
     unfold zBX;split;rename_i b G q;exact absurd q (M b G);trivial
    rw[zEa g t y f C];exact q3 j y (fun B=>by rcases List.mem_cons.1 B with h|h;exact C h;exact F h) Q
   have I:∀b G,kd k≠ .call b G:=fun b G q=>A ⟨b,G,q⟩
   exact(zM0 g p t l f J I).2 (zUw m I)
  have:=zSQ g p l r (a.put o.dst u) v a2 (fun j y=>hn j (qG _ y)) R (fun j y F=>hw j y (qG _ F)) (by rw[zGQ];exact V) (s u a3.1) a3.2;rw[zSV fun x z s=>a4 x s z];exact this
end
section
variable {P:Program}
theorem zUy(h:Blk w b t cs):wr w b t cs=w:=by
 have:w.heap.setIfInBounds b (.cells cs t (0,0))=w.heap:=by
  apply zAh;intro j;by_cases e:j=b
  .subst e
   rw[Array.getElem?_setIfInBounds_self_of_lt (Array.getElem?_eq_some_iff.1 h).1];exact h.symm
  exact xgc (zL e)
 unfold wr;rw[this]
theorem zWj:wr (wr w b t cs) b t cs'=wr w b t cs':=by
 unfold wr;congr 1;apply zAh;intro j;by_cases e:b=j
 .subst e
  simp[Array.getElem?_setIfInBounds]
 rw[xgc e,xgc e,xgc e]
theorem zOZ(h:Blk w b t cs):w.setCell ⟨b,i,none⟩ v=wr w b t (cs.setIfInBounds i v):=by
 unfold World.setCell wr;congr 1;apply zAh;intro j;have a:=(Array.getElem?_eq_some_iff.1 h).1;by_cases e:b=j
 .subst e
  rw[Array.getElem?_setIfInBounds_self_of_lt a,Array.getElem?_modify];unfold Blk at h;rw[h];simp
 rw[xgc e,Array.getElem?_modify];simp[e]
def zE5:Array Value->Nat->List Value->Array Value
 |cs,_,[]=>cs
 |cs,i,v::vs=>zE5 (cs.setIfInBounds i v) (i+1) vs
theorem zIG:∀(vs:List Value) (cs:Array Value) (i:Nat),i+vs.length=cs.size->(zE5 cs i vs).toList=cs.toList.take i++vs
 | [],cs,i,h=>by
  simp only[zE5,List.append_nil];rw[jS (by simp at h ⊢;omega)]
 | v::vs,cs,i,h=>by
  simp only[zE5];rw[zIG vs _ (i+1) (by simp at h ⊢;omega)];simp only[List.length_cons]at h;rw[Array.toList_setIfInBounds];apply List.ext_getElem?;intro k;rcases zBg k i with hk|hk|hk
  rw[List.getElem?_append_left (by simp;omega),List.getElem?_append_left (by simp;omega),List.getElem?_take_of_lt oM,List.getElem?_take_of_lt hk,List.getElem?_set_ne oM]
  .subst hk
   rw[List.getElem?_append_left (by simp;omega),List.getElem?_take_of_lt oM,List.getElem?_append_right (by simp;omega)];simp only[List.length_take,Array.length_toList];rw[show min k cs.size=k by omega,zAu,List.getElem?_set_self (by simp;omega)];rfl
  rw[List.getElem?_append_right (by simp;omega),List.getElem?_append_right (by simp;omega)];simp only[List.length_take,List.length_set,Array.length_toList];rw[show min i cs.size=i by omega,show min (i+1) cs.size=i+1 by omega,show k-i=(k-(i+1))+1 by omega];rfl
theorem zFn{b:Nat}{t:TypeId}:∀(vs:List Value) (i:Nat) (cs:Array Value) (w:World),Blk w b t cs->i+vs.length<=cs.size->(vs.all fun c=>match c with| .agg _| .tuple _=>false|_=>true)=true->
  (storeCells ⟨b,0,none⟩ vs i).run P w= .ok () (wr w b t (zE5 cs i vs))
 | [],i,cs,w,h,_,_=>by
  unfold storeCells zE5;rw[zUy h];rfl
 | v::vs,i,cs,w,h,k,a=>by
  simp only[List.length_cons]at k;simp only[List.all_cons,Bool.and_eq_true]at a;have f:(⟨b,0,none⟩:Addr).add i=⟨b,i,none⟩:=by
   unfold Addr.add;split;rename_i e;rw[e];simp
  have j:w.cell? ⟨b,i,none⟩=some (cs[i]'oM):=by
   unfold World.cell?;unfold Blk at h;rw[h];simp
  have n:w.frozen? ⟨b,i,none⟩=false:=by
   unfold World.frozen?;unfold Blk at h;rw[h];simp
  have l:=zOZ (i:=i) (v:=v) h;have g:Blk (wr w b t (cs.setIfInBounds i v)) b t (cs.setIfInBounds i v):=zIb (Array.getElem?_eq_some_iff.1 h).1;have d:=zFn vs (i+1) (cs.setIfInBounds i v) _ g (by simp;omega) a.2;rw[zWj]at d;unfold storeCells zE5;have m:(store ((⟨b,0,none⟩:Addr).add i) v).run P w= .ok () (wr w b t (cs.setIfInBounds i v)):=by
   rw[f,<-l];unfold store;cases v<;>first|(simp only[Sem.run,j,n];rfl)|exact absurd a.1 sI
  rw[zCL,m];exact d
theorem zLJ{w:World}{e c:Operand}{t:TypeId}{cs:Array Value}(u:o.op= .store tt e c)(p:a.eval e=ptr b)(d:zFF P tt=some m)
  (hc:(a.eval c).cells.size=m) (f:zJo (a.eval c)=true) (n:Blk w b t cs) (y:cs.size=m):(execOp a.eval o).run P w= .ok .skip (wr w b t (a.eval c).cells):=by
 unfold execOp;rw[u];dsimp only;have q:∃i,P.info? tt=some i/\i.size=m:=by
  unfold zFF at d;cases h:P.info? tt with
  |none=>rw[h]at d;cases d
  |some i=>rw[h]at d;injection d with d;exact⟨i,rfl,d⟩
 obtain⟨i,r,s⟩:=q;have v:zE5 cs 0 (a.eval c).cells.toList=(a.eval c).cells:=by
  apply Array.toList_inj.1;rw[zIG _ _ _ (by simp;omega)];simp
 have g:=zFn (P:=P) (t:=t) (a.eval c).cells.toList 0 cs w n (by simp;omega) (by unfold zJo at f;rw[<-Array.all_toList]at f;exact f);rw[v]at g;have k:(Instr.storeAt tt (a.eval e) (a.eval c)).run P w= .ok () (wr w b t (a.eval c).cells):=by
  rw[p];have x:(sizeOf tt).run P w= .ok m w:=by
   have l:(typeInfo tt).run P w= .ok i w:=by
    show(match P.info? tt with|some i=>pure i|none=>stuck "no such type" : Sem TypeInfo).run P w=_;rw[r];rfl
   unfold sizeOf;rw[zCL,l,<-s];rfl
  have j:(Instr.sureAddr (ptr b)).run P w= .ok ⟨b,0,none⟩ w:=rfl;unfold Instr.storeAt;rw[zCL,j];show(storeVar tt ⟨b,0,none⟩ (a.eval c)).run P w=_;unfold storeVar;rw[zCL,x];show(if(a.eval c).cells.size≠m then _ else _:Sem Unit).run P w=_;rw[zA (by rw[hc];simp)];exact g
 rw[zCL,k];rfl
end
section
variable {P:Program} {ops:Array Oper} {kd:Nat->Kd} {al:Nat->Bool} {D:Nat->Prop} {W:World} {n N:Nat}
def zWt(ops:Array Oper)(kd:Nat->Kd)(n0:Nat)(j:Nat)(a:Act)(w:World):Prop:=
 ∀ai t m,kd j= .store ai t m->∀o tt ad vo,ops[j]?=some o->o.op= .store tt (.tmp ad) vo->∃b,a.tmps[ad]?=some (ptr b)/\n0<=b/\Blk w b t (a.eval vo).cells
def zWl(ops:Array Oper)(kd:Nat->Kd)(j:Nat)(a:Act)(w:World):Prop:=
 ∀b t m,kd j= .es b t m->∀o tt ad vo,ops[j]?=some o->o.op= .store tt ad vo->Blk w b t (a.eval vo).cells
def zVA(ops:Array Oper)(al:Nat->Bool)(n:Nat)(p:Nat->Prop)(T:Array Value):Prop:=
 ∀i j,i<n->j<n->i≠j->al i=true->al j=true->p i->p j->∀d e,zCc ops i=some d->zCc ops j=some e->T[d]?≠T[e]?
structure SI(P:Program)(ops:Array Oper)(kd:Nat->Kd)(al:Nat->Bool)(D:Nat->Prop)(W:World)(n N:Nat)(E:Act->Prop)(ds:List Deferred)(L:Array Bool)(T:Array Value)(w:World):Prop where
 size:T.size=N
 bel:zHm D W w
 fact:∀j,j<n->L[j]?=some true->zBX ops kd j T w
 sto:∀j,j<n->L[j]?=some true->zWt ops kd W.heap.size j ⟨T,ds⟩ w
 far:zVA ops al n (fun i=>L[i]?=some true) T
 est:∀j,j<n->L[j]?=some true->zWl ops kd j ⟨T,ds⟩ w
 dt:∀j b t m,j<n->kd j= .es b t m->b<W.heap.size/\D b/\∃cs,Blk w b t cs/\cs.size=m
 nes:(∀j,j<n->L[j]?=some true->∀b t m,kd j≠ .es b t m)->BWq W w
 rem:∃r:List Nat,r.Pairwise (· < ·)/\(∀i∈r,i<n)/\(∀i,i<n->(i∈r↔L[i]?≠some true))/\SS P ops kd al D W n E r ⟨T,ds⟩
theorem zAY(a:j≠i)(h:(L.setIfInBounds i true)[j]?=some true):L[j]?=some true:=by
 rwa[xgc (zL a)]at h
theorem zMl(e:r.Nodup)(d:i<L.size)(c:∀j,j<n->(j∈r↔L[j]?≠some true)):∀j,j<n->(j∈r.erase i↔(L.setIfInBounds i true)[j]?≠some true):=by
 intro j b;rw[e.mem_erase_iff];by_cases a:j=i
 .subst a
  rw[Array.getElem?_setIfInBounds_self_of_lt d];simp
 rw[xgc (zL a)];exact⟨fun h=>(c j b).1 h.2,fun h=>⟨a,(c j b).2 h⟩⟩
theorem SI.step(g:zO9 ops kd al W.heap.size n N){E:Act->Prop}{x:List Deferred}(J:ops[i]?=some o)(I:i<n):zV P ops Q x (SI P ops kd al D W n N E x) i o:=by
 intro L T w hL hd c4 ⟨hs,hb,hf,f4,d3,e5,c6,e7,r,hp,hn,hr,c3⟩ c2 hK;have d4:i∈r:=(hr i I).2 (by rw[hL];simp);have hw:∀j,zC6 o j=true->j ∉ r:=fun j c hm=>(hr j (hn j hm)).1 hm (hd j c)
 have f8:∀q G,kd i= .call q G->∀d∈q,L[d]?=some true:=fun q G f d c1=>(g.deps i q G I f d c1).2 o L J (fun k h=>hd k h) c4
 have i7:∀q G,kd i= .call q G->∀d∈q,d ∉ r:=fun q G f d c1 hm=>(hr d (hn d hm)).1 hm (f8 q G f d c1)
 have f9:∀j,j<n->j ∉ r->L[j]?=some true:=fun j c c7=>jU fun l=>c7 ((hr j c).2 l)
 have a1:=zVo (a:=⟨T,x⟩) g I J r w hp hn d4 hw i7 hs hb (fun j c c7=>hf j c (f9 j c c7)) c3;have d5:r.Nodup:=hp.imp (fun c3=>by omega);have d1:=(Array.getElem?_eq_some_iff.1 hL).1;have l5:∀j,L[j]?=some true->j≠i:=fun j c e=>by rw[e,hL]at c;cases c
 have g6:∀j R,j<n->L[j]?=some true->BWq w R->zBX ops kd j T R:=fun j R c s a0=>by
  have:=hf j c s;unfold zBX at this ⊢
  split at this
  .rename_i q G' f
   exact fun d v hd hv=>g.last j q G' f _ _ _ a0 (this d v hd hv)
  trivial
 have h0:∀j d v,j<n->L[j]?=some true->al j=true->zCc ops j=some d->T[d]?=some v->∃b,v=ptr b/\b<w.heap.size:=fun j d v c s O i6 hv=>by
  obtain⟨t,m,h⟩:=g.alk j O;have:=hf j c s;unfold zBX at this;rw[h]at this;obtain⟨b,cs,y,-,X,-⟩:=this d v i6 hv;exact⟨b,y,(Array.getElem?_eq_some_iff.1 X).1⟩
 have next:∀v R,BWq w R->Val P ops kd D W n (r.erase i) i o ⟨T,x⟩ v->(∀q G,kd i= .call q G->G R v)->(al i=true->∃b,v=ptr b/\w.heap.size<=b)->(∀B t m,kd i≠ .store B t m)->(∀b t m,kd i≠ .es b t m)->c2 ((⟨T,x⟩:Act).put o.dst v) R:=fun v R a0 hv hg i8 d6 k1=>by
  have d7:(⟨T,x⟩:Act).put o.dst v=⟨((⟨T,x⟩:Act).put o.dst v).tmps,x⟩:=by cases o.dst<;>rfl
  rw[d7];refine hK _ R ⟨by rw[zGQ];exact hs,hb.add a0,?_,?_,?_,?_,fun j b t m c h=>?_,fun b0=>?_,r.erase i,hp.sublist List.erase_sublist,fun j c=>hn j (List.mem_of_mem_erase c),zMl d5 d1 hr,?_⟩
  .intro j c s
   by_cases p:j=i
   .subst p
    unfold zBX;split
    .rename_i q G f
     intro b2 g8 hx hy;have hd:o.dst=some b2:=by
      unfold zCc at hx;rw[J]at hx;exact hx
     rw[hd,zF5 (a:=⟨T,x⟩) (by show b2<T.size;rw[hs];exact g.dst j o b2 I J hd)]at hy;injection hy with hy
     exact hy ▸ hg q G f
    trivial
   exact(zEa (a:=⟨T,x⟩) (u:=v) g I c J p).2 (g6 j R c (zAY p s) a0)
  .intro j c s B t m h A tt S vo K Z
   have p:j≠i:=fun e=>d6 B t m (e ▸ h)
   obtain⟨b,y,z,X⟩:=f4 j c (zAY p s) B t m h A tt S vo K Z;have hl:∀d,o.dst=some d->d ∉ A.looksAt ops:=fun d y z=>by
    have:=c4 j A K (zAY p s) i (g.look j i A o d c I K J y z);rw[hL]at this;cases this
   have e1:=zCx (a:=⟨T,x⟩) (v:=v) (x:=.tmp S) hl (by rw[Z];simp[Op.operands]);have e2:=zCx (a:=⟨T,x⟩) (v:=v) (x:=vo) hl (by rw[Z];simp[Op.operands]);have h5:((⟨T,x⟩:Act).put o.dst v).tmps[S]?=T[S]?:=by
    cases b8:o.dst with
    |none=>rfl
    |some d=>
     refine zKz fun e=>hl d b8 ?_
     subst e;exact jO _ (List.mem_filterMap.2 ⟨.tmp d,by rw[Z];simp[Op.operands],rfl⟩)
   refine⟨b,h5.trans y,z,?_⟩;have:=X.I a0;rw[<-d7,e2];exact this
  .intro i' C b6 a5 U O a3 hl a9 d e hd Y b5
   have go:∀C e,C<n->C≠i->al C=true->L[C]?=some true->zCc ops C=some e->al i=true->∀d,zCc ops i=some d->((⟨T,x⟩:Act).put o.dst v).tmps[d]?≠((⟨T,x⟩:Act).put o.dst v).tmps[e]?:=fun C e a5 U a3 a9 Y O d hd b5=>by
    obtain⟨b,h9,l3⟩:=i8 O;have e8:o.dst=some d:=by
     unfold zCc at hd;rw[J]at hd;exact hd
    have i5:d≠e:=by
     rintro rfl;unfold zCc at Y;cases a4:ops[C]? with
     |none=>rw[a4]at Y;cases Y
     |some o'=>
      rw[a4]at Y;exact U (g.inj C i o' o d a5 I a4 J Y e8)
    rw[e8,zF5 (a:=⟨T,x⟩) (by show d<T.size;rw[hs];exact g.dst i o d I J e8),zKz i5]at b5;obtain⟨l1,a8,l4⟩:=h0 C e v a5 a9 a3 Y b5.symm;rw[h9]at a8;unfold ptr at a8;injection a8 with a8
    injection a8 with a8
    injection a8 with a8
    omega
   by_cases y:i'=i
   .subst y
    exact go C e a5 (zL U) a3 (zAY (zL U) a9) Y O d hd b5
   by_cases z:C=i
   .subst z
    exact go i' d b6 U O (zAY U hl) hd a3 e Y b5.symm
   have g7:∀k b2,k≠i->k<n->zCc ops k=some b2->((⟨T,x⟩:Act).put o.dst v).tmps[b2]?=T[b2]?:=fun k b2 h k0 hx=>by
    cases b8:o.dst with
    |none=>rfl
    | some g8=>
     refine zKz ?_;rintro rfl;unfold zCc at hx;cases a4:ops[k]? with
     |none=>rw[a4]at hx;cases hx
     |some o'=>
      rw[a4]at hx;exact h (g.inj k i o' o g8 k0 I a4 J hx b8)
   rw[g7 i' d y b6 hd,g7 C e z a5 Y]at b5;exact d3 i' C b6 a5 U O a3 (zAY y hl) (zAY z a9) d e hd Y b5
  .intro j c s b t m h A tt S vo K Z
   have p:j≠i:=fun e=>k1 b t m (e ▸ h)
   have hl:∀d,o.dst=some d->d ∉ A.looksAt ops:=fun d y z=>by
    have:=c4 j A K (zAY p s) i (g.look j i A o d c I K J y z);rw[hL]at this;cases this
   have e2:=zCx (a:=⟨T,x⟩) (v:=v) (x:=vo) hl (by rw[Z];simp[Op.operands]);have:=(e5 j c (zAY p s) b t m h A tt S vo K Z).I a0;rw[<-d7,e2];exact this
  .obtain⟨y,z,cs,X,h4⟩:=c6 j b t m c h
   exact⟨y,z,cs,X.I a0,h4⟩
  refine nx (e7 fun j c s=>b0 j c (zAv s)) a0;rw[<-d7];exact zSQ g I J r ⟨T,x⟩ v hp hn d4 hw hs c3 hv
 have k6:(∀q G,kd i≠ .call q G)->al i=true->∃b,(undef:Value)=ptr b/\w.heap.size<=b:=fun f O=>by
  obtain⟨t,m,h⟩:=g.alk i O;exact absurd h (f _ _)
 unfold Ob at a1;split at a1
 .rename_i l
  have g4:∀q G,kd i≠ .call q G:=fun q G f=>by rw[l]at f;cases f
  have b0:∀R v,∀q G,kd i= .call q G->(G:World->Value->Prop) R v:=fun R v q G f=>absurd f (g4 q G)
  have d6:∀B t m,kd i≠ .store B t m:=fun B t m f=>by rw[l]at f;cases f
  have U:∀b t m,kd i≠ .es b t m:=fun b t m f=>by rw[l]at f;cases f
  have g3:∀v:Value,al i=true->∃b,v=ptr b/\w.heap.size<=b:=fun v O=>by
   obtain⟨t,m,h⟩:=g.alk i O;exact absurd h (g4 _ _)
  by_cases d0:Region.wanted o (yielded ops T)=true
  .rw[zC d0]
   obtain⟨v,y,z⟩:=a1 d0;unfold Oper.wp;rw[zOp (zUv y) z fun k3=>(e7 fun j c s b t m h=>by
    have:=g.rd i o j b t m I l J k3 c h L c4 s;rw[hL]at this;cases this).block]
   exact next v w (zB _ _) (by unfold Val;rw[l];exact .inl ⟨d0,y,z⟩) (b0 w v) (g3 v) d6 U
  rw[zA d0];exact next undef w (zB _ _) (by unfold Val;rw[l];exact .inr ⟨by simpa using d0,rfl⟩) (b0 w undef) (g3 undef) d6 U
 .rename_i l
  rw[zA (by rw[a1];simp)];exact next undef w (zB _ _) (by unfold Val;rw[l];exact⟨a1,rfl⟩) (fun q G f=>by rw[l]at f;cases f) (k6 fun q G f=>by rw[l]at f;cases f) (fun B t m f=>by rw[l]at f;cases f) (fun B t m f=>by rw[l]at f;cases f)
 .rename_i q G l
  rw[zC a1.1];refine zRj (a1.2 w hb fun d c1=>hf d (by have:=(g.deps i q G I l d c1).1;omega) (f8 q G l d c1)) fun v R hg a0=>?_
  refine next v R a0 ?_ (fun l2 G2 f=>by
   rw[l]at f;injection f with _ f
   exact f ▸ hg.1) hg.2 (fun B t m f=>by rw[l]at f;cases f) (fun B t m f=>by rw[l]at f;cases f)
  unfold Val;rw[l];refine⟨a1.1,R,hb.add a0,fun j c c7 p=>?_,hg.1⟩;exact g6 j R c (f9 j c fun hm=>c7 (by rw[d5.mem_erase_iff];exact⟨p,hm⟩)) a0
 .rename_i B t m l
  rw[zC a1.1];obtain⟨-,tt,S,vo,Z,f5,f,e6⟩:=a1;obtain⟨o',k8,g9,k9,a4,e9,c5,d9,b4,h7,i9,k4⟩:=g.sto i B t m I l;obtain rfl:o=o':=qC (J.symm.trans a4);rw[Z]at e9;injection e9 with e1 e2 e3
  injection e2 with e2
  subst e1 e2 e3;have f7:=hd B k4;have i3:∃b cs,T[S]?=some (ptr b)/\W.heap.size<=b/\Blk w b t cs/\cs.size=m:=by
   have:=hf B d9 f7;unfold zBX at this;rw[i9]at this;have g2:S<T.size:=by
    unfold zCc at b4;cases b8:ops[B]? with
    |none=>rw[b8]at b4;cases b4
    |some o2=>rw[b8]at b4;rw[hs];exact g.dst B o2 S d9 b8 b4
   obtain⟨b,cs,y,z,X,h4⟩:=this S T[S] b4 (Array.getElem?_eq_getElem g2);exact⟨b,cs,by rw[Array.getElem?_eq_getElem g2,y],z,X,h4⟩
  obtain⟨b,cs,d8,b7,hB,b3⟩:=i3;have e4:(⟨T,x⟩:Act).eval (.tmp S)=ptr b:=by
   show T.getD S undef=ptr b;rw[zAC,d8];rfl
  have f0:=zLJ (P:=P) (a:=⟨T,x⟩) (w:=w) Z e4 f5 f e6 hB b3;unfold Oper.wp;rw[f0];show c2 ((⟨T,x⟩:Act).put o.dst undef) _;rw[c5];show c2 ⟨T,x⟩ _;have d2:=(Array.getElem?_eq_some_iff.1 hB).1;refine hK T _ ⟨hs,hb.write (.inl b7),?_,?_,?_,fun j c s M H F h A b9 a7 c0 K a2=>?_,fun j M H F c h=>?_,fun b0=>zS9 (e7 fun j c s=>b0 j c (zAv s)) b7,r.erase i,hp.sublist List.erase_sublist,fun j c=>hn j (List.mem_of_mem_erase c),zMl d5 d1 hr,?_⟩
  .intro j c s
   by_cases p:j=i
   .subst p
    unfold zBX;rw[l];trivial
   have:=hf j c (zAY p s);unfold zBX at this ⊢
   split at this
   .rename_i q G' e0
    exact fun d v hd hv=>g.lastw j q G' i B t m e0 l w v b cs _ b7 hB b3 (by rw[f,b3]) (this d v hd hv)
   trivial
  .intro j c s aj H F a6 A b9 a7 c0 K a2
   by_cases p:j=i
   .subst p
    obtain rfl:o=A:=qC (J.symm.trans K);rw[l]at a6;injection a6 with f1 V f3
    subst f1 V f3;rw[Z]at a2;injection a2 with f1 V f3
    injection V with V
    subst f1 V f3;exact⟨b,d8,b7,zIb d2⟩
   have g1:=zAY p s;obtain⟨M,y,z,X⟩:=f4 j c g1 aj H F a6 A b9 a7 c0 K a2;refine⟨M,y,z,(zG7 ?_).trans X⟩;intro e;subst e;obtain⟨k7,l6,l0,l7,k2,g5,-,h6,i4,h8,-,k5⟩:=g.sto j aj H F c a6;obtain rfl:A=k7:=qC (K.symm.trans k2);rw[a2]at g5;injection g5 with f1 V f3
   injection V with V
   subst f1 V f3;have U:B≠aj:=fun e=>p (g.sinj j i aj H F t m a6 (e ▸ l))
   exact d3 B aj d9 h6 U h7 h8 f7 (c4 j A K g1 aj k5) S a7 b4 i4 (d8.trans y.symm)
  .intro i' C b6 a5 U O a3 hl a9 d e hd Y
   have c9:∀k,al k=true->k≠i:=fun k h e=>by
    obtain⟨t',m',c8⟩:=g.alk k h;rw[e,l]at c8;cases c8
   exact d3 i' C b6 a5 U O a3 (zAY (c9 i' O) hl) (zAY (c9 C a3) a9) d e hd Y
  .have p:j≠i:=fun e=>by rw[e,l]at h;cases h
   obtain⟨y,-,-⟩:=c6 j M H F c h;exact(zG7 oM).trans (e5 j c (zAY p s) M H F h A b9 a7 c0 K a2)
  .obtain⟨y,z,cs',X,h4⟩:=c6 j M H F c h
   exact⟨y,z,cs',(zG7 oM).trans X,h4⟩
  have:=zSQ g I J r ⟨T,x⟩ undef hp hn d4 hw hs c3 (by unfold Val;rw[l]);rw[c5]at this;exact this
 rename_i b t m l;rw[zC a1.1];obtain⟨-,tt,S,vo,Z,e4,f5,f,e6⟩:=a1;obtain⟨o',k8,g9,k9,a4,e9,c5⟩:=g.es i b t m I l;obtain rfl:o=o':=qC (J.symm.trans a4);obtain⟨i0,f6,cs,hB,b3⟩:=c6 i b t m I l;have f0:=zLJ (P:=P) (a:=⟨T,x⟩) (w:=w) Z e4 f5 f e6 hB b3;unfold Oper.wp;rw[f0];show c2 ((⟨T,x⟩:Act).put o.dst undef) _;rw[c5];show c2 ⟨T,x⟩ _;have d2:=(Array.getElem?_eq_some_iff.1 hB).1;have b7:∀j M H F,j<n->kd j= .es M H F->j≠i->M≠b:=fun j M H F _ h p e=>p (g.einj j i b H F t m (e ▸ h) l)
 refine hK T _ ⟨hs,hb.write (.inr f6),?_,?_,?_,fun j c s M H F h A b9 a7 c0 K a2=>?_,fun j M H F c h=>?_,fun b0=>?_,r.erase i,hp.sublist List.erase_sublist,fun j c=>hn j (List.mem_of_mem_erase c),zMl d5 d1 hr,?_⟩
 .intro j c s
  by_cases p:j=i
  .subst p
   unfold zBX;rw[l];trivial
  have:=hf j c (zAY p s);unfold zBX at this ⊢
  split at this
  .rename_i q G' e0
   exact fun d v hd hv=>g.laste j q G' i b t m e0 l w v b cs _ (zG _) hB b3 (by rw[f,b3]) (this d v hd hv)
  trivial
 .intro j c s aj H F a6 A b9 a7 c0 K a2
  have p:j≠i:=fun e=>by rw[e,l]at a6;cases a6
  obtain⟨M,y,z,X⟩:=f4 j c (zAY p s) aj H F a6 A b9 a7 c0 K a2;exact⟨M,y,z,(zG7 oM).trans X⟩
 .intro i' C b6 a5 U O a3 hl a9 d e hd Y
  have c9:∀k,al k=true->k≠i:=fun k h e=>by
   obtain⟨t',m',c8⟩:=g.alk k h;rw[e,l]at c8;cases c8
  exact d3 i' C b6 a5 U O a3 (zAY (c9 i' O) hl) (zAY (c9 C a3) a9) d e hd Y
 .by_cases p:j=i
  .subst p
   obtain rfl:o=A:=qC (J.symm.trans K);rw[l]at h;injection h with f1 V f3
   subst f1 V f3;rw[Z]at a2;injection a2 with f1 V f3
   subst f1 V f3;exact zIb d2
  exact(zG7 (b7 j M H F c h p)).trans (e5 j c (zAY p s) M H F h A b9 a7 c0 K a2)
 .by_cases p:j=i
  .subst p
   rw[l]at h;injection h with f1 V f3
   subst f1 V f3;exact⟨i0,f6,_,zIb d2,f⟩
  obtain⟨y,z,cs',X,h4⟩:=c6 j M H F c h;exact⟨y,z,cs',(zG7 (b7 j M H F c h p)).trans X,h4⟩
 exact absurd l (b0 i I (Array.getElem?_setIfInBounds_self_of_lt d1) b t m);have:=zSQ g I J r ⟨T,x⟩ undef hp hn d4 hw hs c3 (by unfold Val;rw[l]);rw[c5]at this;exact this
end
/-! ### The walk as a text says it -/
abbrev zFY:=List (Nat × (World->Value->Prop) × Value)
def zWA:List Nat->Nat->Bool
 | [],_=>false
 |d::ds,i=>match Nat.beq d i with
  |true=>true
  |false=>zWA ds i
def FD(ds:List Nat):zFY->World->Prop->Prop
 | [],_,X=>X
 |(i,G,v)::r,w,X=>match zWA ds i with
  |true=>G w v->FD ds r w X
  |false=>FD ds r w X
def FA:zFY->World->Prop->Prop
 | [],_,X=>X
 | [(_,G,v)],w,X=>G w v->X
 |(_,G,v)::q::r,w,X=>G w v->FA (q::r) w X
abbrev zHQ:=List (Value × TypeId × Array Value)
def zWk(w:World)(v:Value)(t:TypeId)(cs:Array Value):Prop:=∀b,v=ptr b->Blk w b t cs
def FC:zHQ->World->Prop->Prop
 | [],_,X=>X
 |(v,t,cs)::r,w,X=>zWk w v t cs->FC r w X
abbrev zHP:=List (Nat × Nat)
def FN:zHP->Prop->Prop
 | [],X=>X
 |p::r,X=>(∀q∈r,p.2≠q.2)->FN r X
class DropR (n:Nat) (l:List Oper) (t:outParam (List Oper)):Prop where
 eq:l.drop n=t
instance {l:List Oper}:DropR 0 l l:=⟨rfl⟩
instance {n:Nat} {o:Oper} {l t:List Oper} [h:DropR n l t]:DropR (n+1) (o::l) t:=⟨h.eq⟩
inductive PK where
 |skip
 |call (ds:List Nat) (G:World->Value->Prop)
 |al (t:TypeId) (m:Nat)
 |st (ai:Nat) (t:TypeId) (m:Nat)
 |es (b:Nat) (t:TypeId) (m:Nat)
abbrev zCo:=List (Nat × PK)
def zIH(P:Program)(ops:Array Oper)(W:World)(K:Act->Prop):List Oper->Act->Prop
 | [],a=>K a
 |o::r,a=>(Region.wanted o (yielded ops a.tmps)=true->zLo P a.eval o=true)/\if Region.wanted o (yielded ops a.tmps)then o.still P a W (zIH P ops W K r)else zIH P ops W K r (a.put o.dst undef)
def zU5(P:Program)(ops:Array Oper)(W:World)(R:World->Prop)(i:Nat)(F:zFY)(B:zHP)(C:zHQ)(next:zFY->zHP->zHQ->List Oper->Act->Prop):List Oper->PK->Act->Prop
 | [],_,_=>False
 |o::r,.skip,a=>Region.wanted o (yielded ops a.tmps)=false/\next F B C r (a.put o.dst undef)
 |o::r,.call ds G,a=>(Region.wanted o (yielded ops a.tmps)=true/\∀w,R w->FD ds F w (zFd P o a w G))/\∀v,(∃w,R w/\G w v)->next (F++ [(i,G,v)]) B C r (a.put o.dst v)
 |o::r,.al t m,a=>(Region.wanted o (yielded ops a.tmps)=true/\∀w,R w->zFd P o a w fun w2 v=>v=ptr w.heap.size/\∃cs,Blk w2 w.heap.size t cs/\cs.size=m)/\∀b,W.heap.size<=b->next F (B++ [(i,b)]) C r (a.put o.dst (ptr b))
 |o::r,.st _ t m,a=>Region.wanted o (yielded ops a.tmps)=true/\∃tt ad vo,o.op= .store tt (.tmp ad) vo/\zFF P tt=some m/\(a.eval vo).cells.size=m/\zJo (a.eval vo)=true/\next F B (C++ [(a.eval (.tmp ad),t,(a.eval vo).cells)]) r a
 |o::r,.es b t m,a=>Region.wanted o (yielded ops a.tmps)=true/\∃tt ad vo,o.op= .store tt ad vo/\a.eval ad=ptr b/\zFF P tt=some m/\(a.eval vo).cells.size=m/\zJo (a.eval vo)=true/\next F B (C++ [(ptr b,t,(a.eval vo).cells)]) r a
def ser(P:Program)(ops:Array Oper)(W:World)(R:World->Prop)(E:Act->World->Prop):Nat->zCo->List Oper->zFY->zHP->zHQ->Act->Prop
 |_,[],l,F,B,C,a=>zIH P ops W (fun a=>∀w,R w->FA F w (FC C w (FN B (E a w)))) l a
 |c,(i,p)::pl,l,F,B,C,a=>zIH P ops W (fun a=>zU5 P ops W R i F B C (fun F B C r a=>ser P ops W R E (i+1) pl r F B C a) (l.drop (i-c)) p a) (l.take (i-c)) a
def kdK(n0:Nat):PK->Kd
 | .skip=>.skip
 | .call ds G=>.call ds G
 | .al t m=>.call [] (zKM n0 t m)
 | .st ai t m=>.store ai t m
 | .es b t m=>.es b t m
def zHY(n0:Nat):zCo->Nat->Kd
 | [],_=>.q
 |(i,p)::pl,j=>match Nat.beq i j with
  |true=>kdK n0 p
  |false=>zHY n0 pl j
def zWW:PK->Bool
 | .al _ _=>true
 |_=>false
def zM3:zCo->Nat->Bool
 | [],_=>false
 |(i,p)::pl,j=>match Nat.beq i j with
  |true=>zWW p
  |false=>zM3 pl j
def zEh(n:Nat):Nat->zCo->Bool
 |_,[]=>true
 |c,(i,_)::pl=>decide (c<=i) && decide (i<n) && zEh n (i+1) pl
def zUl(ops:Array Oper):Nat->Nat->Nat->Bool
 |0,_,_=>false
 |f+1,i,d=>match ops[i]? with
  |none=>false
  |some o=>o.after.any fun e=>Region.binds .any e && (e.on==d||zUl ops f e.on d)
def zVj:Op->Bool
 | .select _ _=>false
 |_=>true
def zVY(ops:Array Oper)(n N:Nat):Bool:=
 (List.range n).all fun i=>match ops[i]? with
  |none=>false
  |some o=>(match o.dst with|some d=>decide (d<N)|none=>true) && zVj o.op && (List.range n).all fun j=>match (ops[j]?).bind (·.dst)with
   |none=>true
   |some d=>(!(o.looksAt ops).contains d||zC6 o j) && (i==j||o.dst !=some d)
def zVL(ai:Nat)(t:TypeId)(m:Nat):zCo->Bool
 | []=>false
 | (i,p)::pl=>match Nat.beq i ai with
  |true=>match p with
   | .al t' m'=>t'==t && m'==m
   |_=>false
  |false=>zVL ai t m pl
def zTP(ai:Nat):zCo->Bool
 | []=>true
 |(_,.st aj _ _)::pl=>!(ai==aj) && zTP ai pl
 |(_,_)::pl=>zTP ai pl
def zUE(i:Nat):zCo->Bool
 | []=>false
 |(j,_)::pl=>i==j||zUE i pl
def zHL(ops:Array Oper)(n:Nat)(full:zCo):zCo->Bool
 | []=>true
 |(_,.skip)::pl=>zHL ops n full pl
 |(i,.call ds _)::pl=>(match zCc ops i with|some _=>true|none=>false) && ds.all (fun d=>zUl ops 5 i d) && zHL ops n full pl
 |(i,.al _ _)::pl=>(match zCc ops i with|some _=>true|none=>false) && zHL ops n full pl
 | (i,.st ai t m)::pl=>(match ops[i]? with
  |none=>false
  |some o=>zC6 o ai && o.dst.isNone && match o.op with
   | .store _ (.tmp ad) _=>zCc ops ai==some ad
   |_=>false) && decide (ai<n) && zVL ai t m full && zTP ai pl && zHL ops n full pl
 | (i,.es _ _ _)::pl=>(match ops[i]? with
  |none=>false
  |some o=>o.dst.isNone && match o.op with
   | .store _ _ _=>true
   |_=>false) && (List.range n).all (fun k=>match ops[k]? with
  |none=>true
  |some o=>!zEk o||zUE k full||zUl ops 5 i k) && zHL ops n full pl
def zRO(ops:Array Oper)(n N:Nat)(pl:zCo):Bool:=zCd ops && zVY ops n N && zEh n 0 pl && zHL ops n pl pl
def zES(n0:Nat)(G:World->Value->Prop):zCo->Prop
 | []=>True
 |(_,.st _ t m)::pl=>zD8 n0 t m G/\zES n0 G pl
 |(_,.es _ t m)::pl=>zD8 0 t m G/\zES n0 G pl
 |(_,_)::pl=>zES n0 G pl
def zDy(n0:Nat)(full:zCo):zCo->Prop
 | []=>True
 |(_,.call _ G)::pl=>zAA G/\zES n0 G full/\zDy n0 full pl
 |(_,_)::pl=>zDy n0 full pl
def zTE(b:Nat):zCo->Prop
 | []=>True
 |(_,.es c _ _)::pl=>b≠c/\zTE b pl
 |(_,_)::pl=>zTE b pl
def zO8(W:World):zCo->Prop
 | []=>True
 |(_,.es b t m)::pl=>(∃cs,Blk W b t cs/\cs.size=m)/\zTE b pl/\zO8 W pl
 |(_,_)::pl=>zO8 W pl
def esD:zCo->Nat->Prop
 | [],_=>False
 |(_,.es b _ _)::pl,k=>k=b∨esD pl k
 |(_,_)::pl,k=>esD pl k
def zTO:zCo->Bool
 | []=>true
 |(_,.es _ _ _)::_=>false
 |(_,_)::pl=>zTO pl
theorem zPD(h:zCd ops=true)(d:ops[i]?=some o)(b:zC6 o j=true):j<i:=by
 unfold zC6 at b;rw[<-zAe,zAN]at b;obtain⟨e,c,a⟩:=b;simp only[Bool.and_eq_true,beq_iff_eq]at a;exact a.2 ▸ zDI h d e (Array.mem_toList_iff.1 c) a.1
theorem zMh{ops:Array Oper}(m:zCd ops=true):∀(f i d:Nat),zUl ops f i d=true->d<i/\∀(o:Oper) (L:Array Bool),ops[i]?=some o->(∀k,zC6 o k=true->L[k]?=some true)->zCH ops L->L[d]?=some true
 |0,_,_,h=>by cases h
 | f+1,i,d,h=>by
  unfold zUl at h;split at h;cases h;rename_i o c;rw[<-zAe,zAN]at h;obtain⟨e,s,b⟩:=h;simp only[Bool.and_eq_true,Bool.or_eq_true,beq_iff_eq]at b;obtain⟨r,a⟩:=b;have l:zC6 o e.on=true:=by
   unfold zC6;rw[<-zAe,zAN];exact⟨e,s,by simp[r]⟩
  have t:=zPD m c l;rcases a with a|a
  .refine⟨by omega,fun o' L j g _=>?_⟩
   obtain rfl:o=o':=qC (c.symm.trans j);exact a ▸ g _ l
  obtain⟨v,q⟩:=zMh m f e.on d a;refine⟨by omega,fun o' L j g n=>?_⟩;obtain rfl:o=o':=qC (c.symm.trans j);have u:=g _ l;have p:e.on<ops.size:=Nat.lt_trans t (Array.getElem?_eq_some_iff.1 c).1;exact q _ L (Array.getElem?_eq_getElem p) (fun k b=>n _ _ (Array.getElem?_eq_getElem p) u k b) n
theorem zGG{n0:Nat}:∀{pl:zCo} {i:Nat},zHY n0 pl i≠ .q->∃p,(i,p)∈pl/\zHY n0 pl i=kdK n0 p/\zM3 pl i=zWW p
 | [],_,h=>absurd rfl h
 | (k,p)::pl,i,h=>by
  unfold zHY zM3 at*;split at h
  .rename_i d
   have:=Nat.eq_of_beq_eq_true d;subst this;exact⟨p,by simp,rfl,rfl⟩
  obtain⟨e,a,b,c⟩:=zGG (pl:=pl) h;exact⟨e,qG _ a,b,c⟩
theorem zM4:∀{pl:zCo} {i:Nat} (n0:Nat),zM3 pl i=true->∃t m,zHY n0 pl i= .call [] (zKM n0 t m)
 | [],_,_,h=>by cases h
 |(k,p)::pl,i,n0,h=>by
  unfold zM3 at h;unfold zHY;split at h;cases p<;>first|exact⟨_,_,rfl⟩|cases h
  exact zM4 n0 h
theorem zMU{ops:Array Oper}{n:Nat}{c:zCo}:∀{pl:zCo},zHL ops n c pl=true->∀i a G,(i,PK.call a G)∈pl->(∃d,zCc ops i=some d)/\∀d∈a,zUl ops 5 i d=true
 | [],_,i,a,G,b=>by cases b
 | (k,p)::pl,h,i,a,G,b=>by
  have j:zHL ops n c pl=true:=by
   cases p<;>simp only[zHL,Bool.and_eq_true]at h<;>first|exact h|exact h.2
  rcases List.mem_cons.1 b with e|b
  .injection e with f g
   subst f g;simp only[zHL,Bool.and_eq_true,List.all_eq_true]at h;refine⟨?_,h.1.2⟩;cases hd:zCc ops i with
   |none=>rw[hd]at h;simp at h
   |some d=>exact⟨d,rfl⟩
  exact zMU j i a G b
theorem zVp{ops:Array Oper}{n:Nat}{b:zCo}:∀{pl:zCo},zHL ops n b pl=true->∀i t m,(i,PK.al t m)∈pl->∃d,zCc ops i=some d
 | [],_,i,t,m,a=>by cases a
 | (k,p)::pl,h,i,t,m,a=>by
  have g:zHL ops n b pl=true:=by
   cases p<;>simp only[zHL,Bool.and_eq_true]at h<;>first|exact h|exact h.2
  rcases List.mem_cons.1 a with e|a
  .injection e with c f
   subst c f;simp only[zHL,Bool.and_eq_true]at h;cases hd:zCc ops i with
   |none=>rw[hd]at h;simp at h
   |some d=>exact⟨d,rfl⟩
  exact zVp g i t m a
theorem zVq{ops:Array Oper}{n:Nat}{f:zCo}:∀{pl:zCo},zHL ops n f pl=true->∀i a t m,(i,PK.st a t m)∈pl->
  ∃o tt c j,ops[i]?=some o/\o.op= .store tt (.tmp c) j/\o.dst=none/\a<n/\zCc ops a=some c/\zC6 o a=true/\zVL a t m f=true
 | [],_,i,a,t,m,b=>by cases b
 | (k,p)::pl,h,i,a,t,m,b=>by
  have y:zHL ops n f pl=true:=by
   cases p<;>simp only[zHL,Bool.and_eq_true]at h<;>first|exact h|exact h.2
  rcases List.mem_cons.1 b with e|b
  .injection e with l q
   subst l q;simp only[zHL,Bool.and_eq_true,decide_eq_true_eq]at h;obtain⟨⟨⟨⟨d,r⟩,s⟩,-⟩,-⟩:=h;split at d;cases d;rename_i o w;simp only[Bool.and_eq_true]at d;obtain⟨⟨u,v⟩,g⟩:=d;split at g
   .rename_i tt c j x
    exact⟨o,tt,c,j,w,x,by simpa using v,r,by simpa using g,u,s⟩
   cases g
  exact zVq y i a t m b
theorem zMQ{a:Nat}:∀{pl:zCo},zTP a pl=true->∀j t m,(j,PK.st a t m) ∉ pl
 | [],_,j,t,m=>by simp
 | (k,p)::pl,h,j,t,m=>by
  intro b;rcases List.mem_cons.1 b with e|b
  .injection e with c d
   subst c d;simp[zTP]at h
  have f:zTP a pl=true:=by
   cases p<;>simp only[zTP,Bool.and_eq_true]at h<;>first|exact h|exact h.2
  exact zMQ f j t m b
theorem zTS{ops:Array Oper}{n:Nat}{o:zCo}:∀{pl:zCo},zHL ops n o pl=true->∀i j a t m f e,(i,PK.st a t m)∈pl->(j,PK.st a f e)∈pl->i=j
 | [],_,i,j,a,t,m,f,e,c,_=>by cases c
 | (k,p)::pl,h,i,j,a,t,m,f,e,c,d=>by
  have s:zHL ops n o pl=true:=by
   cases p<;>simp only[zHL,Bool.and_eq_true]at h<;>first|exact h|exact h.2
  have q:∀x t m,p= .st x t m->zTP x pl=true:=by
   rintro x t m rfl;simp only[zHL,Bool.and_eq_true]at h;exact h.1.2
  rcases List.mem_cons.1 c with g|c
  .injection g with g r
   rcases List.mem_cons.1 d with b|d
   .injection b with b l
    rw[g,b]
   exact absurd d (zMQ (q a t m r.symm) j f e)
  rcases List.mem_cons.1 d with b|d
  .injection b with b l
   exact absurd c (zMQ (q a f e l.symm) i t m)
  exact zTS s i j a t m f e c d
theorem zST{ops:Array Oper}{n:Nat}{f:zCo}:∀{pl:zCo},zHL ops n f pl=true->∀i b t m,(i,PK.es b t m)∈pl->
  (∃o tt d g,ops[i]?=some o/\o.op= .store tt d g/\o.dst=none)/\∀k o,k<n->ops[k]?=some o->zEk o=true->zUE k f=false->zUl ops 5 i k=true
 | [],_,i,b,t,m,a=>by cases a
 | (k,p)::pl,h,i,b,t,m,a=>by
  have A:zHL ops n f pl=true:=by
   cases p<;>simp only[zHL,Bool.and_eq_true]at h<;>first|exact h|exact h.2
  rcases List.mem_cons.1 a with e|a
  .injection e with l q
   subst l q;simp only[zHL,Bool.and_eq_true,List.all_eq_true]at h;obtain⟨⟨c,r⟩,-⟩:=h;refine⟨?_,fun k o v x z u=>?_⟩
   .split at c
    .cases c
    rename_i o w;simp only[Bool.and_eq_true]at c;obtain⟨s,j⟩:=c;split at j
    .rename_i tt d g y
     exact⟨o,tt,d,g,w,y,by simpa using s⟩
    cases j
   have:=r k (yR.2 v);rw[x]at this;simpa[z,u]using this
  exact zST A i b t m a
theorem zPp{n0:Nat}:∀{pl:zCo} {i:Nat},zUE i pl=true->zHY n0 pl i≠ .q
 | [],_,h=>by cases h
 | (j,p)::pl,i,h=>by
  unfold zUE at h;unfold zHY;split;cases p<;>intro e<;>cases e
  rename_i a;simp only[Bool.or_eq_true,beq_iff_eq]at h;rcases h with h|h
  .subst h
   rw[Nat.beq_refl]at a;cases a
  exact zPp h
theorem zL6{b:Nat}:∀{pl:zCo},zTE b pl->∀j c t m,(j,PK.es c t m)∈pl->b≠c
 | [],_,j,c,t,m,h=>by cases h
 | (k,p)::pl,h,j,c,t,m,a=>by
  rcases List.mem_cons.1 a with e|a
  .injection e with d f
   subst d f;exact h.1
  have g:zTE b pl:=by cases p<;>first|exact h.2|exact h
  exact zL6 g j c t m a
theorem zJn{W:World}:∀{pl:zCo},zO8 W pl->(∀i b t m,(i,PK.es b t m)∈pl->esD pl b/\∃cs,Blk W b t cs/\cs.size=m)/\∀i j b t m f d,(i,PK.es b t m)∈pl->(j,PK.es b f d)∈pl->i=j
 | [],_=>⟨fun i b t m h=>(by cases h),fun i j b t m f d h=>(by cases h)⟩
 | (k,p)::pl,h=>by
  have w:zO8 W pl:=by cases p<;>first|exact h.2.2|exact h
  obtain⟨q,u⟩:=zJn w;refine⟨fun i b t m g=>?_,fun i j b t m f d v s=>?_⟩
  .rcases List.mem_cons.1 g with e|g
   .injection e with c l
    subst c l;exact⟨.inl rfl,h.1⟩
   refine⟨?_,(q i b t m g).2⟩;have:=(q i b t m g).1;cases p<;>first|exact .inr this|exact this
  rcases List.mem_cons.1 v with c|r
  .injection c with c l
   rcases List.mem_cons.1 s with a|n
   .injection a with a o
    rw[c,a]
   subst l;exact absurd rfl (zL6 h.2.1 j b f d n)
  rcases List.mem_cons.1 s with a|n
  .injection a with a o
   subst o;exact absurd rfl (zL6 h.2.1 i b t m r)
  exact u i j b t m f d r n
theorem zTJ:∀{pl:zCo},zTO pl=true->∀k,¬ esD pl k
 | [],_,k=>fun h=>h
 |(j,p)::pl,h,k=>by
  have a:zTO pl=true:=by cases p<;>first|exact h|cases h
  have:=zTJ a k;cases p<;>first|exact this|cases h
theorem zPB{n0 a:Nat}{t:TypeId}{m:Nat}:∀{pl:zCo},zVL a t m pl=true->zM3 pl a=true/\zHY n0 pl a= .call [] (zKM n0 t m)
 | [],h=>by cases h
 | (i,p)::pl,h=>by
  unfold zVL at h;unfold zM3 zHY;split at h
  .rename_i b
   cases p<;>first|cases h|skip
   rename_i d c;simp only[Bool.and_eq_true,beq_iff_eq]at h;obtain⟨rfl,rfl⟩:=h;exact⟨rfl,rfl⟩
  exact zPB h
theorem zI8{n0:Nat}{G:World->Value->Prop}:∀{pl:zCo},zES n0 G pl->∀i b t m,(i,PK.es b t m)∈pl->zD8 0 t m G
 | [],_,i,b,t,m,h=>by cases h
 | (k,p)::pl,h,i,b,t,m,a=>by
  rcases List.mem_cons.1 a with e|a
  .injection e with c d
   subst c d;exact h.1
  have f:zES n0 G pl:=by cases p<;>first|exact h.2|exact h
  exact zI8 f i b t m a
theorem zI9{n0:Nat}{G:World->Value->Prop}:∀{pl:zCo},zES n0 G pl->∀i a t m,(i,PK.st a t m)∈pl->zD8 n0 t m G
 | [],_,i,a,t,m,h=>by cases h
 | (k,p)::pl,h,i,a,t,m,b=>by
  rcases List.mem_cons.1 b with e|b
  .injection e with c d
   subst c d;exact h.1
  have f:zES n0 G pl:=by cases p<;>first|exact h.2|exact h
  exact zI9 f i a t m b
theorem zJs{n0:Nat}{b:zCo}:∀{pl:zCo},zDy n0 b pl->∀i a G,(i,PK.call a G)∈pl->zAA G/\zES n0 G b
 | [],_,i,a,G,h=>by cases h
 | (k,p)::pl,h,i,a,G,c=>by
  rcases List.mem_cons.1 c with e|c
  .injection e with d f
   subst d f;exact⟨h.1,h.2.1⟩
  have g:zDy n0 b pl:=by cases p<;>first|exact h.2.2|exact h
  exact zJs g i a G c
theorem zPo{n N:Nat}{pl:zCo}(h:zRO ops n N pl=true)(F:zDy n0 pl pl)(D:∀i j b t m v u,(i,PK.es b t m)∈pl->(j,PK.es b v u)∈pl->i=j):zO9 ops (zHY n0 pl) (zM3 pl) n0 n N:=by
 unfold zRO at h;simp only[Bool.and_eq_true]at h;obtain⟨⟨⟨C,E⟩,hp⟩,hd⟩:=h;have H:∀i o,i<n->ops[i]?=some o->(∀d,o.dst=some d->d<N)/\zVj o.op=true/\∀j d,j<n->(ops[j]?).bind (·.dst)=some d->(d∈o.looksAt ops->zC6 o j=true)/\(i=j∨o.dst≠some d):=by
  intro i o l q;have a:=zW.1 E i (yR.2 l);rw[q]at a;simp only[Bool.and_eq_true]at a;obtain⟨⟨a,f⟩,h3⟩:=a;refine⟨fun d hd=>?_,f,fun j d r Y=>?_⟩
  .rw[hd]at a
   simpa using a
  have x:=zW.1 h3 j (yR.2 r);rw[Y]at x;simp only[Bool.and_eq_true,Bool.or_eq_true,Bool.not_eq_true',beq_iff_eq,bne_iff_ne]at x;exact⟨fun I=>by
   rcases x.1 with y|y
   .rw[List.contains_iff_mem.2 I]at y
    cases y
   exact y,x.2⟩
 have z:∀i g G,zHY n0 pl i= .call g G->(i,PK.call g G)∈pl∨∃t m,(i,PK.al t m)∈pl/\g= []/\G=zKM n0 t m:=fun i g G c=>by
  obtain⟨p,a,f,-⟩:=zGG (n0:=n0) (pl:=pl) (i:=i) (by rw[c];intro e;cases e);rw[c]at f;cases p<;>first|cases f|skip
  exact .inl a;exact .inr ⟨_,_,a,rfl,rfl⟩
 have B:∀i s t m,zHY n0 pl i= .store s t m->(i,PK.st s t m)∈pl:=fun i s t m c=>by
  obtain⟨p,a,f,-⟩:=zGG (n0:=n0) (pl:=pl) (i:=i) (by rw[c];intro e;cases e);rw[c]at f;cases p<;>first|cases f|skip
  exact a
 have w:∀i b t m,zHY n0 pl i= .es b t m->(i,PK.es b t m)∈pl:=fun i b t m c=>by
  obtain⟨p,a,f,-⟩:=zGG (n0:=n0) (pl:=pl) (i:=i) (by rw[c];intro e;cases e);rw[c]at f;cases p<;>first|cases f|skip
  exact a
 refine⟨fun i o d l q A=>(H i o l q).1 d A,fun i o g G l q c=>?_,fun i j o o' d l r q J a f=>?_,fun i j o o' d l r q J X I=>?_,fun i o j q hw=>zPD C q hw,fun i o cs b l q D=>?_,
  fun i g G l c d M=>?_,fun i g G c=>?_,fun i g G j s t m c r=>?_,fun i s t m l c=>?_,fun i j s t m v u a f=>zTS hd i j s t m v u (B _ _ _ _ a) (B _ _ _ _ f),fun i b t m l c=>(zST hd i b t m (w _ _ _ _ c)).1,fun i j b t m v u a f=>D i j b t m v u (w _ _ _ _ a) (w _ _ _ _ f),
  fun i o j b t m l c q Z r O L K W=>?_,fun i g G j b t m c r=>?_,fun i l=>zM4 n0 l⟩
 .have:∃d,zCc ops i=some d:=by
   rcases z i g G c with a|⟨t,m,a,-,-⟩
   exact(zMU hd i g G a).1;exact zVp hd i t m a
  obtain⟨d,A⟩:=this;unfold zCc at A;rw[q]at A;exact⟨d,A⟩
 .have:=(H i o l q).2.2 j d r (by rw[J];exact f)
  rcases this.2 with h3|h3
  exact h3;exact absurd a h3
 exact((H i o l q).2.2 j d r (by rw[J];exact X)).1 I
 .have:=(H i o l q).2.1
  rw[D]at this;cases this
 .rcases z i g G c with a|⟨t,m,a,f,-⟩
  .exact zMh C 5 i d ((zMU hd i g G a).2 d M)
  subst f;cases M
 .rcases z i g G c with a|⟨t,m,a,-,h3⟩
  .exact(zJs F i g G a).1
  subst h3;exact zN5 _ _ _
 .rcases z i g G c with a|⟨v,u,a,-,h3⟩
  .exact zI9 (zJs F i g G a).2 j s t m (B _ _ _ _ r)
  subst h3;exact zI7 _ _ _ _ _ _
 .obtain⟨o,tt,R,vo,a,f,h3,x,y,U,V⟩:=zVq hd i s t m (B _ _ _ _ c)
  obtain⟨S,T⟩:=zPB (n0:=n0) V;exact⟨o,tt,R,vo,a,f,h3,x,y,S,T,U⟩
 .have E:zUE i pl=false:=by
   cases h:zUE i pl with
   |true=>exact absurd c (zPp h)
   |false=>rfl
  have a0:=(zST hd j b t m (w _ _ _ _ O)).2 i o l q Z E;obtain⟨Q,-,-,-,P,-,-⟩:=(zST hd j b t m (w _ _ _ _ O)).1;exact(zMh C 5 j i a0).2 Q L P (fun k c=>K j Q P W k c) K
 rcases z i g G c with a|⟨v,u,a,-,h3⟩
 exact zI8 (zJs F i g G a).2 j b t m (w _ _ _ _ r);subst h3;exact zI7 _ _ _ _ _ _
theorem zP6:∀{a:List Nat} {i:Nat},zWA a i=true->i∈a
 | d::a,i,h=>by
  unfold zWA at h;split at h
  .rename_i b
   exact Nat.eq_of_beq_eq_true b ▸ zAP
  exact qG _ (zP6 h)
theorem zTd{a:List Nat}{w:World}{X:Prop}:∀{F:zFY},FD a F w X->(∀p∈F,p.1∈a->p.2.1 w p.2.2)->X
 | [],h,_=>h
 | (i,G,v)::r,h,b=>by
  have c:∀p∈r,p.1∈a->p.2.1 w p.2.2:=fun p e=>b p (qG _ e)
  unfold FD at h;split at h
  .rename_i d
   exact zTd (h (b (i,G,v) sI (zP6 d))) c
  exact zTd h c
theorem zJV{c:List Nat}{w:World}{X Y:Prop}(a:X->Y):∀{F:zFY},FD c F w X->FD c F w Y
 | [],h=>a h
 | (i,G,v)::r,h=>by
  unfold FD at h ⊢
  split
  .rename_i b
   rw[b]at h;exact fun d=>zJV a (h d)
  rename_i b;rw[b]at h;exact zJV a h
theorem zU7{w:World}{X:Prop}:∀{F:zFY},FA F w X->(∀p∈F,p.2.1 w p.2.2)->X
 | [],h,_=>h
 | [(i,G,v)],h,a=>h (a (i,G,v) sI)
 |(i,G,v)::q::r,h,a=>zU7 (F:=q::r) (h (a (i,G,v) sI)) fun p b=>a p (qG _ b)
theorem zU8{w:World}{X:Prop}:∀{C:zHQ},FC C w X->(∀x∈C,zWk w x.1 x.2.1 x.2.2)->X
 | [],h,_=>h
 |(v,t,cs)::r,h,a=>zU8 (C:=r) (h (a (v,t,cs) sI)) fun p b=>a p (qG _ b)
theorem zU9{X:Prop}:∀{B:zHP},FN B X->B.Pairwise (fun p q=>p.2≠q.2)->X
 | [],h,_=>h
 |p::r,h,a=>zU9 (B:=r) (h fun q b=>List.rel_of_pairwise_cons a b) (List.Pairwise.of_cons a)
section
variable {P:Program} {ops:Array Oper} {kd:Nat->Kd} {al:Nat->Bool} {D:Nat->Prop} {W:World} {n n0 N:Nat}
structure zU1(ops:Array Oper)(kd:Nat->Kd)(al:Nat->Bool)(c:Nat)(F:zFY)(B:zHP)(C:zHQ)(a:Act):Prop where
 f:∀p∈F,p.1<c/\∀w,zBX ops kd p.1 a.tmps w->p.2.1 w p.2.2
 b1:B.Pairwise (fun p q=>p.1<q.1)
 b:∀p∈B,p.1<c/\al p.1=true/\∃d,zCc ops p.1=some d/\a.tmps[d]?=some (ptr p.2)
 c:∀x∈C,(∃j ai m o tt ad vo,j<c/\kd j= .store ai x.2.1 m/\ops[j]?=some o/\o.op= .store tt (.tmp ad) vo/\a.eval (.tmp ad)=x.1/\(a.eval vo).cells=x.2.2)∨
  ∃j b m o tt ad vo,j<c/\kd j= .es b x.2.1 m/\ops[j]?=some o/\o.op= .store tt ad vo/\x.1=ptr b/\(a.eval vo).cells=x.2.2
theorem zFL(g:zO9 ops kd al n0 n N){c:Nat}{F:zFY}{B:zHP}{C:zHQ}(hc:c<n)(D:ops[c]?=some o)(h:zU1 ops kd al c F B C a):zU1 ops kd al (c+1) F B C (a.put o.dst u):=by
 have M:∀k x,k<c->zCc ops k=some x->(a.put o.dst u).tmps[x]?=a.tmps[x]?:=fun k x O r=>by
  cases K:o.dst with
  |none=>rfl
  | some y=>
   refine zKz ?_;rintro rfl;unfold zCc at r;cases E:ops[k]? with
   |none=>rw[E]at r;cases r
   |some o'=>
    rw[E]at r;have:=g.inj k c o' o y oM hc E D r K;omega
 refine⟨fun p G=>?_,h.b1,fun p G=>?_,fun x r=>?_⟩
 .obtain⟨i,q⟩:=h.f p G
  exact⟨by omega,fun w L=>q w ((zEa g hc oM D oM).1 L)⟩
 .obtain⟨i,q,d,e,l⟩:=h.b p G
  exact⟨by omega,q,d,e,(M p.1 d i e).trans l⟩
 have A:∀j f,j<c->ops[j]?=some f->∀d,o.dst=some d->d ∉ f.looksAt ops:=fun j f i e d I J=>by
  have:=g.back j f c e (g.look j c f o d oM hc e D I J);omega
 rcases h.c x r with⟨j,H,m,f,tt,t,s,i,q,e,l,v,z⟩|⟨j,b,m,f,tt,t,s,i,q,e,l,v,z⟩
 exact .inl ⟨j,H,m,f,tt,t,s,by omega,q,e,l,(zCx (x:=.tmp t) (A j f i e) (by rw[l];simp[Op.operands])).trans v,by rw[zCx (x:=s) (A j f i e) (by rw[l];simp[Op.operands])];exact z⟩;exact .inr ⟨j,b,m,f,tt,t,s,by omega,q,e,l,v,by rw[zCx (x:=s) (A j f i e) (by rw[l];simp[Op.operands])];exact z⟩
theorem zMX(g:zO9 ops kd al n0 n N){E:Act->Prop}{K:Act->Prop}{F:zFY}{B:zHP}{C:zHQ}:∀(l:List Oper) (c:Nat) (r:List Nat) (a:Act),c+l.length<=n->(∀j,j<l.length->l[j]?=ops[c+j]?)->(∀j,c<=j->j<c+l.length->kd j= .q)->a.tmps.size=N->zU1 ops kd al c F B C a->
  (∀a,a.tmps.size=N->zU1 ops kd al (c+l.length) F B C a->K a->SS P ops kd al D W n E r a)->zIH P ops W K l a->SS P ops kd al D W n E (List.range' c l.length++r) a
 | [],c,r,a,_,_,_,t,m,i,h=>i a t m h
 | o::l,c,r,a,H,p,k,t,m,i,h=>by
  simp only[List.length_cons]at H p k i ⊢
  have w:ops[c]?=some o:=by have:=p 0 oM;simpa using this.symm
  have A:c<n:=by omega
  rw[List.range'_succ,List.cons_append];unfold zIH at h;obtain⟨u,b⟩:=h;have y:∀v,zIH P ops W K l (a.put o.dst v)->SS P ops kd al D W n E (List.range' (c+1) l.length++r) (a.put o.dst v):=fun v f=>
   zMX g l (c+1) r _ oM (fun j J=>by have:=p (j+1) oM;rw[List.getElem?_cons_succ]at this;rw[this];congr 1;omega) (fun j u b=>k j oM oM) (by rw[zGQ];exact t)
    (zFL g A w m) (fun a z G=>i a z (by rw[show c+(l.length+1)=c+1+l.length by omega];exact G)) f
  refine⟨o,w,?_,?_⟩
  .unfold Ob
   rw[k c oM oM];intro d;rw[zC d]at b;have s:=u d;unfold Oper.still at b;cases e:(execOp a.eval o).run P W with
   |halt x I=>rw[e]at b;exact b.elim
   |ok x I=>
    obtain⟨v,rfl⟩:=zV1 s e;rw[e]at b;obtain⟨rfl,-⟩:=b;exact⟨v,s,rfl⟩
  intro v f;unfold Val at f;rw[k c oM oM]at f;rcases f with⟨d,s,e⟩|⟨d,rfl⟩
  .rw[zC d]at b
   unfold Oper.still at b;rw[e]at b;exact y v b.2
  rw[zA (by rw[d];simp)]at b;exact y undef b
theorem zKn{n n0:Nat}:∀{pl:zCo} {c j:Nat},zEh n c pl=true->j<c->zHY n0 pl j= .q
 | [],_,_,_,_=>rfl
 | (i,p)::pl,c,j,h,b=>by
  unfold zEh at h;simp only[Bool.and_eq_true,decide_eq_true_eq]at h;unfold zHY;split
  .rename_i a
   have:=Nat.eq_of_beq_eq_true a;omega
  exact zKn h.2 oM
def zU0(ops:Array Oper)(kd:Nat->Kd)(al:Nat->Bool)(D:Nat->Prop)(W:World)(n:Nat)(E:Act->World->Prop)(a:Act):Prop:=
 ∀w,zHm D W w->(∀j,j<n->zBX ops kd j a.tmps w)->(∀j,j<n->zWt ops kd W.heap.size j a w)->(∀j,j<n->zWl ops kd j a w)->zVA ops al n (fun _=>True) a.tmps->E a w
theorem zTW{E:Act->World->Prop}{R:World->Prop}(hR:∀w,zHm D W w->R w)(g:zO9 ops kd al W.heap.size n N)(hn:n<=ops.size):∀(pl:zCo) (c:Nat) (l:List Oper) (F:zFY) (B:zHP) (C:zHQ) (a:Act),c<=n->l.length=n-c->(∀j,j<l.length->l[j]?=ops[c+j]?)->zEh n c pl=true->(∀j,c<=j->kd j=zHY W.heap.size pl j)->(∀j,c<=j->al j=zM3 pl j)->a.tmps.size=N->zU1 ops kd al c F B C a->
  ser P ops W R E c pl l F B C a->SS P ops kd al D W n (zU0 ops kd al D W n E) (List.range' c (n-c)) a
 | [],c,l,F,B,C,a,hc,b0,hl,_,hk,ha,hs,hi,a2=>by
  have:=zMX (D:=D) (r:=[]) (E:=zU0 ops kd al D W n E) g l c a oM hl (fun j k _=>hk j k) hs hi (fun L _ s hK w A hf c6 b7 b8=>by
   refine zU9 (zU8 (zU7 (hK w (hR w A)) fun p Y=>(s.f p Y).2 w (hf _ (by have:=(s.f p Y).1;omega))) fun x hx=>?_) ?_
   .rcases s.c x hx with⟨j,ai,m,o,tt,G,S,k,f,H,M,O,I⟩|⟨j,b,m,o,tt,G,S,k,f,H,M,O,I⟩
    rotate_left
    .intro b' J
     rw[O]at J;unfold ptr at J;injection J with J
     injection J with J
     injection J with J
     rw[<-J,<-I];exact b7 j oM b x.2.1 m f o tt G S H M
    obtain⟨b,e1,e2,e3⟩:=c6 j oM ai x.2.1 m f o tt G S H M;intro b' J;have Q:L.eval (.tmp G)=ptr b:=by
     show L.tmps.getD G undef=ptr b;rw[zAC,e1];rfl
    rw[O,J]at Q;unfold ptr at Q;injection Q with Q
    injection Q with Q
    injection Q with Q
    rw[Q,<-I];exact e3
   refine List.Pairwise.imp_of_mem (fun {p q} Y hq d0=>?_) s.b1;obtain⟨p1,p2,d,p3,p4⟩:=s.b p Y;obtain⟨q1,q2,a0,q3,q4⟩:=s.b q hq;intro b6;exact b8 p.1 q.1 oM oM oM p2 q2 trivial trivial d a0 p3 q3 (by rw[p4,q4,b6])) a2
  rw[zCE,b0]at this;exact this
 | (i,p)::pl,c,l,F,B,C,a,hc,b0,hl,U,hk,ha,hs,hi,a2=>by
  have c9:=U;unfold zEh at U;simp only[Bool.and_eq_true,decide_eq_true_eq]at U;obtain⟨⟨a9,K⟩,U⟩:=U;have ht:(l.take (i-c)).length=i-c:=by rw[qM];omega
  have c5:List.range' c (n-c)=List.range' c (i-c)++i::List.range' (i+1) (n-(i+1)):=by
   rw[show n-c=(i-c)+((n-(i+1))+1) by omega,<-List.range'_append_1,show c+(i-c)=i by omega,List.range'_succ]
  rw[c5];have b9:kd i=zHY W.heap.size ((i,p)::pl) i:=hk i a9;have c1:∀j,c<=j->j<c+(l.take (i-c)).length->kd j= .q:=fun j k f=>by
   rw[ht]at f;rw[hk j k];unfold zHY;split
   .rename_i hb
    have:=Nat.eq_of_beq_eq_true hb;omega
   exact zKn U oM
  have b2:∀j,i+1<=j->Nat.beq i j=false:=fun j X=>by rw[<-Bool.not_eq_true];exact fun hb=>by have:=Nat.eq_of_beq_eq_true hb;omega
  have c0:∀j,i+1<=j->kd j=zHY W.heap.size pl j:=fun j X=>by
   rw[hk j oM];show(match Nat.beq i j with|true=>_|false=>zHY W.heap.size pl j)=_;rw[b2 j X]
  have b5:∀j,i+1<=j->al j=zM3 pl j:=fun j X=>by
   rw[ha j oM];show(match Nat.beq i j with|true=>_|false=>zM3 pl j)=_;rw[b2 j X]
  have y:kd i=kdK W.heap.size p:=by
   rw[b9];show(match Nat.beq i i with|true=>_|false=>_)=_;rw[Nat.beq_refl]
  have a7:al i=zWW p:=by
   rw[ha i a9];show(match Nat.beq i i with|true=>_|false=>_)=_;rw[Nat.beq_refl]
  have:=zMX (D:=D) (F:=F) (B:=B) (C:=C) (r:=i::List.range' (i+1) (n-(i+1))) (E:=zU0 ops kd al D W n E) g (l.take (i-c)) c a (by rw[ht];omega)
   (fun j X=>by rw[List.getElem?_take_of_lt oM];exact hl j oM) c1 hs hi (fun L a6 s hK=>by
    rw[ht,show c+(i-c)=i by omega]at s;have a4:∀j,(l.drop (i-c))[j]?=l[i-c+j]?:=fun j=>List.getElem?_drop
    have a1:(l.drop (i-c)).length=n-i:=by rw[zBw];omega
    cases hd:l.drop (i-c)with
    |nil=>rw[hd]at a1;simp at a1;omega
    | cons o r=>
     rw[hd]at hK a4 a1;simp only[List.length_cons]at a1;have e:ops[i]?=some o:=by
      have T:=a4 0;rw[List.getElem?_cons_zero,hl _ oM]at T;rw[T];congr 1;omega
     have c4:∀j,j<r.length->r[j]?=ops[i+1+j]?:=fun j X=>by
      have T:=a4 (j+1);rw[List.getElem?_cons_succ,hl _ oM]at T;rw[T];congr 1;omega
     have Z:∀F' B' C' u,zU1 ops kd al (i+1) F' B' C' (L.put o.dst u)->ser P ops W R E (i+1) pl r F' B' C' (L.put o.dst u)->SS P ops kd al D W n (zU0 ops kd al D W n E) (List.range' (i+1) (n-(i+1))) (L.put o.dst u):=
      fun F' B' C' u k f=>zTW hR g hn pl (i+1) r F' B' C' _ oM oM c4 U c0 b5 (by rw[zGQ];exact a6) k f
     cases p with
     |skip=>
      obtain⟨k,f⟩:=hK;refine⟨o,e,by unfold Ob;rw[y];exact k,fun v z=>?_⟩;unfold Val at z;rw[y]at z;obtain⟨-,rfl⟩:=z;exact Z F B C undef (zFL g K e s) f
     | call ds b3=>
      obtain⟨⟨k,f⟩,H⟩:=hK;refine⟨o,e,?_,fun v z=>?_⟩
      .unfold Ob
       rw[y];refine⟨k,fun w A hf=>?_⟩;have hg:=zTd (f w (hR w A)) fun p Y c3=>(s.f p Y).2 w (hf _ c3)
       refine zIz (fun w2 v z=>⟨z,fun a8=>?_⟩) hg;rw[a7]at a8;cases a8
      unfold Val at z;rw[y]at z;obtain⟨-,w,A,-,hg⟩:=z;have h:=zFL (u:=v) g K e s;refine Z _ B C v ⟨fun q hq=>?_,h.b1,h.b,h.c⟩ (H v ⟨w,hR w A,hg⟩);rcases List.mem_append.1 hq with hq|hq
      exact h.f q hq;obtain rfl:=List.mem_singleton.1 hq;refine⟨zBx _,fun w A=>?_⟩;dsimp only at A ⊢
      unfold zBX at A;rw[y]at A;obtain⟨d,hd⟩:=g.dstc i o ds b3 K e y;refine A d v (by unfold zCc;rw[e];exact hd) ?_;rw[hd];exact zF5 (by rw[a6];exact g.dst i o d K e hd)
     | al t m=>
      obtain⟨⟨k,f⟩,H⟩:=hK;refine⟨o,e,?_,fun v z=>?_⟩
      .unfold Ob
       rw[y];refine⟨k,fun w A _=>zIz (fun w2 v z=>?_) (f w (hR w A))⟩;obtain⟨a0,cs,M,O⟩:=z;exact⟨⟨_,cs,a0,A.size,M,O⟩,fun _=>⟨_,a0,xgf _⟩⟩
      unfold Val at z;rw[y]at z;obtain⟨-,w,A,-,b,cs,rfl,hb,-,-⟩:=z;have h:=zFL (u:=ptr b) g K e s;obtain⟨d,hd⟩:=g.dstc i o [] _ K e y;refine Z F (B++ [(i,b)]) C (ptr b) ⟨h.f,?_,fun q hq=>?_,h.c⟩ (H b hb)
      .rw[List.pairwise_append]
       exact⟨h.b1,by simp,fun q hq x hx=>by
        obtain rfl:=List.mem_singleton.1 hx;exact(s.b q hq).1⟩
      rcases List.mem_append.1 hq with hq|hq
      exact h.b q hq;obtain rfl:=List.mem_singleton.1 hq;refine⟨zBx _,a7,d,by unfold zCc;rw[e];exact hd,?_⟩;rw[hd];exact zF5 (by rw[a6];exact g.dst i o d K e hd)
     |st ai t m=>
      obtain⟨k,tt,G,S,f,H,M,O,I⟩:=hK;refine⟨o,e,by unfold Ob;rw[y];exact⟨k,tt,G,S,f,H,M,O⟩,fun v _=>?_⟩;obtain⟨o',c7,b4,c8,a5,c2,a3,-,-,-,-,-⟩:=g.sto i ai t m K y;obtain rfl:o=o':=qC (e.symm.trans a5);have h:=zFL (u:=v) g K e s;have V:L.put o.dst v=L:=by rw[a3];rfl
      rw[<-V]at I;refine Z F B _ v ⟨h.f,h.b1,h.b,fun x hx=>?_⟩ (by rw[V]at I ⊢;exact I);rcases List.mem_append.1 hx with hx|hx
      exact h.c x hx;obtain rfl:=List.mem_singleton.1 hx;rw[V];exact .inl ⟨i,ai,m,o,tt,G,S,zBx _,y,e,f,rfl,rfl⟩
     |es b t m=>
      obtain⟨k,tt,G,S,f,T,H,M,O,I⟩:=hK;refine⟨o,e,by unfold Ob;rw[y];exact⟨k,tt,G,S,f,T,H,M,O⟩,fun v _=>?_⟩;obtain⟨o',c7,b4,c8,a5,c2,a3⟩:=g.es i b t m K y;obtain rfl:o=o':=qC (e.symm.trans a5);have h:=zFL (u:=v) g K e s;have V:L.put o.dst v=L:=by rw[a3];rfl
      rw[<-V]at I;refine Z F B _ v ⟨h.f,h.b1,h.b,fun x hx=>?_⟩ (by rw[V]at I ⊢;exact I);rcases List.mem_append.1 hx with hx|hx
      exact h.c x hx;obtain rfl:=List.mem_singleton.1 hx;rw[V];exact .inr ⟨i,b,m,o,tt,G,S,zBx _,y,e,f,rfl,rfl⟩) a2
  rw[ht]at this;exact this
theorem zH1{p:Nat->Oper->Prop}:∀{l:List Oper} {k:Nat},(∀i o,l[i]?=some o->p (k+i) o)->zHo p k l
 | [],_,_=>trivial
 |o::l,k,h=>⟨h 0 o sI,zH1 fun i o a=>by
  have:=h (i+1) o (by simpa using a);rwa[show k+(i+1)=k+1+i by omega]at this⟩
theorem SI.start{E:Act->World->Prop}{R:World->Prop}{pl:zCo}{k:List Deferred}(y:∀w,zHm (esD pl) W w->R w)(g:zO9 l.toArray (zHY W.heap.size pl) (zM3 pl) W.heap.size n T0.size)(z:zO8 W pl)(A:n<=l.length)(c:zEh n 0 pl=true)(h:ser P l.toArray W R E 0 pl (l.take n) [] [] [] ⟨T0,k⟩):
  SI P l.toArray (zHY W.heap.size pl) (zM3 pl) (esD pl) W n T0.size (zU0 l.toArray (zHY W.heap.size pl) (zM3 pl) (esD pl) W n E) k (Array.replicate l.length false) T0 W.drew:=by
 have f:∀j,(Array.replicate l.length false)[j]?≠some true:=fun j a=>by
  rw[Array.getElem?_replicate]at a;split at a<;>simp at a
 refine⟨rfl,zHm.of (dr _),fun j d a=>absurd a (f j),fun j d a=>absurd a (f j),fun i j _ _ _ _ _ a=>absurd a (f i),fun j d a=>absurd a (f j),fun j b t m d s=>?_,fun _=>dr _,List.range' 0 n,List.pairwise_lt_range',fun i r=>by have:=List.mem_range'_1.1 r;omega,fun i r=>⟨fun _=>f i,fun _=>List.mem_range'_1.2 ⟨by omega,by omega⟩⟩,?_⟩
 .obtain⟨p,u,o,-⟩:=zGG (n0:=W.heap.size) (pl:=pl) (i:=j) (by rw[s];intro e;cases e)
  rw[s]at o;cases p<;>first|cases o|skip
  obtain⟨v,cs,q,x⟩:=(zJn z).1 _ _ _ _ u;exact⟨(Array.getElem?_eq_some_iff.1 q).1,v,cs,q,x⟩
 have:=zTW y g (by simpa using A) pl 0 (l.take n) [] [] [] ⟨T0,k⟩ oM (by rw[qM];omega) (fun j d=>by
   rw[qM]at d;rw[List.getElem?_take_of_lt oM,jC];simp) c (fun j _=>rfl) (fun j _=>rfl) rfl ⟨fun p c=>(by cases c),List.Pairwise.nil,fun p c=>(by cases c),fun p c=>(by cases c)⟩ h
 exact this
theorem SI.fin{E:Act->World->Prop}{c:List Deferred}{T:Array Value}(h:SI P ops kd al D W n N (zU0 ops kd al D W n E) c L T w)(b:∀j,j<n->L[j]?=some true):E ⟨T,c⟩ w:=by
 obtain⟨-,l,o,t,p,m,-,-,r,-,e,s,f⟩:=h;cases r with
 |cons i r=>exact absurd (b i (e i sI)) ((s i (e i sI)).1 sI)
 |nil=>exact f w l (fun j a=>o j a (b j a)) (fun j a=>t j a (b j a)) (fun j a=>m j a (b j a)) fun i j d a q g k _ _=>p i j d a q g k (b i d) (b j a)
theorem zRF{c:List Deferred}(pl:zCo)(R:World->Prop)(f:∀w,zHm (esD pl) W w->R w)(h:ser P l.toArray W R (fun a w=>Q .normal a w) 0 pl l [] [] [] ⟨T0,c⟩)(d:zO8 W pl)(b:zRO l.toArray l.length T0.size pl=true)(n:zDy W.heap.size pl pl)(p:P.follows .mixedOrders=true):(Code.region id l.toArray true).wp P Q ⟨T0,c⟩ W:=by
 have g:=zPo b n (zJn d).2;have q:zEh l.length 0 pl=true:=by unfold zRO at b;simp only[Bool.and_eq_true]at b;exact b.1.2
 have k:zCd l.toArray=true:=by unfold zRO at b;simp only[Bool.and_eq_true]at b;exact b.1.1.1
 refine zBJ p _ k (SI.start f g d (xgf _) q (by rw[zAG];exact h)) (fun T w hI=>SI.fin hI fun j m=>by simp[m]) (zH1 fun i o e=>?_);rw[jC];exact SI.step g (by simpa using e) (xge.1 e).1
theorem zS8{e:List Deferred}(n:Nat)(pl:zCo)(R:World->Prop)(k:∀w,zHm (esD pl) W w->R w)(u:l.drop n=tl)(h:ser P l.toArray W R (fun a w=>wpList P l.toArray Q tl a w) 0 pl (l.take n) [] [] [] ⟨T0,e⟩)(f:zO8 W pl)(c:zMD l n=true)(b:zRO l.toArray n T0.size pl=true)(q:zDy W.heap.size pl pl)(r:P.follows .mixedOrders=true):(Code.region id l.toArray true).wp P Q ⟨T0,e⟩ W:=by
 obtain rfl:=u;have g:=zPo b q (zJn f).2;have t:zEh n 0 pl=true:=by unfold zRO at b;simp only[Bool.and_eq_true]at b;exact b.1.2
 have s:n<l.length:=by
  unfold zMD at c;simp only[Bool.and_eq_true,decide_eq_true_eq]at c;exact c.1.1.1.1
 refine zBF n r _ c (SI.start k g f (zAc s) t h) (fun T w hI=>SI.fin hI fun j p=>by unfold zH7;simp[List.getElem?_append,p]) (zH1 fun i o d=>?_);rw[jC];have m:=(xge.1 d).1;rw[qM]at m;rw[List.getElem?_take_of_lt oM]at d;exact SI.step g (by simpa using d) oM
theorem zL7:∀{pl:zCo},zTO pl=true->zO8 W pl
 | [],_=>trivial
 |(_,p)::pl,h=>by
  have a:zTO pl=true:=by cases p<;>first|exact h|cases h
  have:=zL7 (pl:=pl) a;cases p<;>first|exact this|cases h
theorem zM6{pl:zCo}(h:zTO pl=true)(w:World)(a:zHm (esD pl) W w):BWq W w:=a.bel _ (xgf _) fun k hd=>absurd hd (zTJ h k)
theorem zBK{id:Nat}{c:List Deferred}(pl:zCo)(h:ser P l.toArray W (fun w=>BWq W w) (fun a w=>Q .normal a w) 0 pl l [] [] [] ⟨T0,c⟩)(e:zRO l.toArray l.length T0.size pl=true:=by kernel_rfl)
  (f:zDy W.heap.size pl pl:=by repeat' (first|exact trivial|assumption|exact fun _ _ _ _ h=>h|exact fun _ _ _ b h=>h.I b|exact fun _ _ _ b h=>h.ext (lx b)|(refine zH8 ?_;assumption)|exact fun _ _ _ _ _ _ _ _ _ h=>h|exact zEE dE (zEF _)|exact zEE dE (by assumption)|refine⟨?_,?_⟩)) (d:zTO pl=true:=by rfl) (g:P.follows .mixedOrders=true:=by rfl):(Code.region id l.toArray true).wp P Q ⟨T0,c⟩ W:=
 zRF pl _ (zM6 d) h (zL7 d) e f g
theorem yD{id:Nat}{c:List Deferred}(n:Nat)(pl:zCo)[ht:DropR n l tl](h:ser P l.toArray W (fun w=>BWq W w) (fun a w=>wpList P l.toArray Q tl a w) 0 pl (l.take n) [] [] [] ⟨T0,c⟩)(f:zMD l n=true:=by kernel_rfl)(e:zRO l.toArray n T0.size pl=true:=by kernel_rfl)
  (g:zDy W.heap.size pl pl:=by repeat' (first|exact trivial|assumption|exact fun _ _ _ _ h=>h|exact fun _ _ _ b h=>h.I b|exact fun _ _ _ b h=>h.ext (lx b)|(refine zH8 ?_;assumption)|exact fun _ _ _ _ _ _ _ _ _ h=>h|exact zEE dE (zEF _)|exact zEE dE (by assumption)|refine⟨?_,?_⟩)) (d:zTO pl=true:=by rfl) (i:P.follows .mixedOrders=true:=by rfl):(Code.region id l.toArray true).wp P Q ⟨T0,c⟩ W:=
 zS8 n pl _ (zM6 d) ht.eq h (zL7 d) f e g i
def zV7(B:Nat):zCo->Prop
 | []=>True
 |(_,.es c _ _)::pl=>B<=c/\zV7 B pl
 |(_,_)::pl=>zV7 B pl
theorem zL5{B:Nat}:∀{pl:zCo},zV7 B pl->∀k,esD pl k->B<=k
 | [],_,k,h=>h.elim
 |(_,p)::pl,h,k,hk=>by
  cases p<;>first|exact zL5 (pl:=pl) h k hk|skip
  rcases hk with rfl|hk
  exact h.1;exact zL5 (pl:=pl) h.2 k hk
theorem zNA{b:Nat}:∀{pl:zCo},zTE b pl->¬ esD pl b
 | [],_,h=>h
 |(_,p)::pl,h,hk=>by
  cases p<;>first|exact zNA (pl:=pl) h hk|skip
  rcases hk with hk|hk
  exact h.1 hk;exact zNA (pl:=pl) h.2 hk
def zU4:zCo->Bool
 | []=>true
 |(_,.es _ t _)::pl=>!(t==tU) && zU4 pl
 |(_,_)::pl=>zU4 pl
theorem zL8:∀{pl:zCo},zO8 W pl->zU4 pl=true->∀k,esD pl k->∃t cs,Blk W k t cs/\t≠tU
 | [],_,_,k,h=>h.elim
 | (_,p)::pl,h,b,k,a=>by
  cases p<;>first|exact zL8 (pl:=pl) h b k a|skip
  simp only[zU4,Bool.and_eq_true,Bool.not_eq_true',beq_eq_false_iff_ne]at b;rcases a with rfl|a
  .obtain⟨cs,c,-⟩:=h.1
   exact⟨_,cs,c,b.1⟩
  exact zL8 (pl:=pl) h.2.2 b.2 k a
structure SWe(pl:zCo)(W w:World):Prop where
 d:zHm (esD pl) W w
 lext:zBC W w
theorem SWe.of{pl:zCo}(d:zO8 W pl)(e:zU4 pl=true)(w:World)(h:zHm (esD pl) W w):SWe pl W w:=⟨h,fun k g f a=>by
 refine(h.block k (Array.getElem?_eq_some_iff.1 a).1 fun hd=>?_).trans a;obtain⟨t,cs,b,c⟩:=zL8 d e k hd;unfold Blk at b;rw[b]at a;injection a with a
 injection a with _ a _
 exact c a⟩
theorem SWe.bel{pl:zCo}(h:SWe pl W w)(B:Nat)(a:B<=W.heap.size:=by omega)(b:zV7 B pl:=by repeat' (first|exact trivial|omega|refine⟨?_,?_⟩)):Below B W w:=h.d.bel B a (zL5 b)
theorem SWe.old{pl:zCo}(h:SWe pl W w)(k:Nat)(b:k<W.heap.size:=by omega)(a:zTE k pl:=by repeat' (first|exact trivial|omega|refine⟨?_,?_⟩)):w.heap[k]?=W.heap[k]?:=h.d.block k b (zNA a)
theorem SWe.cell{pl:zCo}(h:SWe pl W w){o:Nat}(hc:W.cell? ⟨b,o,none⟩=some v)(a:zTE b pl:=by repeat' (first|exact trivial|omega|refine⟨?_,?_⟩)):w.cell? ⟨b,o,none⟩=some v:=
 (World.cell?_of_block (h.d.block b (yW W ⟨b,o,none⟩ hc) (zNA a))).trans hc
theorem zJS{id:Nat}{c:List Deferred}(pl:zCo)(h:ser P l.toArray W (fun w=>SWe pl W w) (fun a w=>Q .normal a w) 0 pl l [] [] [] ⟨T0,c⟩)(d:zO8 W pl:=by repeat' (first|exact trivial|exact⟨_,by assumption,rfl⟩|omega|refine⟨?_,?_⟩))(e:zRO l.toArray l.length T0.size pl=true:=by kernel_rfl)
  (f:zDy W.heap.size pl pl:=by repeat' (first|exact trivial|assumption|exact fun _ _ _ _ h=>h|exact fun _ _ _ b h=>h.I b|exact fun _ _ _ b h=>h.ext (lx b)|(refine zH8 ?_;assumption)|exact fun _ _ _ _ _ _ _ _ _ h=>h|exact zEE dE (zEF _)|exact zEE dE (by assumption)|refine⟨?_,?_⟩)) (i:zU4 pl=true:=by kernel_rfl) (g:P.follows .mixedOrders=true:=by rfl):(Code.region id l.toArray true).wp P Q ⟨T0,c⟩ W:=
 zRF pl _ (SWe.of d i) h d e f g
theorem sRq{K:Act->Prop}{r:List Oper}(h:∀K':Act->Prop,(∀a,zIH P ops W K r a->K' a)->if Region.wanted o (yielded ops a.tmps)then o.still P a W K' else K' (a.put o.dst undef))
  (b:(!Region.wanted o (yielded ops a.tmps)||zLo P a.eval o)=true:=by kernel_rfl):zIH P ops W K (o::r) a:=by
 refine⟨fun c=>by rw[c]at b;simpa using b,h _ fun _ h=>h⟩
theorem sR0:zIH P ops W (fun b=>b=a) [] a:=rfl
theorem sRd{K:Act->Prop}{d:Act}(h:zIH P ops W K [] d)(c:zIH P ops W (fun b=>b=d) l a:=by(repeat (refine sRq (fun K hK=>?_);go_simp;refine hK _ ?_;clear hK K));exact sR0):zIH P ops W K l a:=by
 have:∀(l:List Oper) (a:Act),zIH P ops W (fun b=>b=d) l a->zIH P ops W K l a:=fun l=>by
  induction l with
  |nil=>intro a c;exact(show a=d from c) ▸ h
  | cons o l g=>
   intro a c;refine⟨c.1,?_⟩;have e:=c.2;split
   .rename_i f
    rw[zC f]at e;exact Oper.still_mono (fun b i=>g b i) e
   rename_i f;rw[zA f]at e;exact g _ e
 exact this l a c
structure SWd(W w:World):Prop where
 bel:BWq W w
theorem SWd.old(h:SWd W w)(k:Nat)(a:k<W.heap.size)(_:True):w.heap[k]?=W.heap[k]?:=h.bel.block k a
theorem SWd.lext(h:SWd W w):zBC W w:=lx h.bel
theorem SWd.cell(h:SWd W w){o:Nat}(hc:W.cell? ⟨b,o,none⟩=some v):w.cell? ⟨b,o,none⟩=some v:=qK hc h.bel
section
variable {i:Nat} {F:zFY} {B:zHP} {C:zHQ} {next:zFY->zHP->zHQ->List Oper->Act->Prop} {o:Oper} {r:List Oper} {a:Act}
theorem sRc{cs:List Nat}{G:World->Value->Prop}
  (c:∀w,SWd W w->FD cs F w (∀Gk:World->Value->Prop,(∀w v,G w v->Gk w v)->zFd P o a w Gk)) (d:∀v,(∃w,SWd W w/\G w v)->next (F++ [(i,G,v)]) B C r (a.put o.dst v))
  (b:Region.wanted o (yielded ops a.tmps)=true:=by kernel_rfl):zIH P ops W (fun a=>zU5 P ops W (fun w=>BWq W w) i F B C next (o::r) (.call cs G) a) [] a:=
 ⟨⟨b,fun w b=>zJV (fun h=>h G fun _ _ h=>h) (c w ⟨b⟩)⟩,fun v ⟨w,b,e⟩=>d v ⟨w,⟨b⟩,e⟩⟩
theorem sRg{R:World->Prop}{cs:List Nat}{G:World->Value->Prop}
  (c:∀w,R w->FD cs F w (∀Gk:World->Value->Prop,(∀w v,G w v->Gk w v)->zFd P o a w Gk)) (d:∀v,(∃w,R w/\G w v)->next (F++ [(i,G,v)]) B C r (a.put o.dst v))
  (b:Region.wanted o (yielded ops a.tmps)=true:=by kernel_rfl):zIH P ops W (fun a=>zU5 P ops W R i F B C next (o::r) (.call cs G) a) [] a:=
 ⟨⟨b,fun w b=>zJV (fun h=>h G fun _ _ h=>h) (c w b)⟩,d⟩
theorem sRx{R:World->Prop}{c d:Operand}(v:Value)(h:next F B (C++ [(ptr b,t,v.cells)]) r a)(g:zJo v=true:=by kernel_rfl)(k:o.op= .store tt c d:=by rfl)(e:zFF P tt=some m:=by kernel_rfl)(f:v.cells.size=m:=by kernel_rfl)
  (j:a.eval c=ptr b:=by kernel_rfl) (hv:a.eval d=v:=by kernel_rfl) (l:Region.wanted o (yielded ops a.tmps)=true:=by kernel_rfl):zIH P ops W (fun a=>zU5 P ops W R i F B C next (o::r) (.es b t m) a) [] a:=
 ⟨l,tt,c,d,k,j,e,by rw[hv];exact f,by rw[hv];exact g,by rw[hv];exact h⟩
theorem zPn(h:(execOp a.eval o).run P w= .ok (.value (ptr w.heap.size)) (w.alloc (.cells cs t (0,0))))(b:cs.size=m):zFd P o a w fun c v=>v=ptr w.heap.size/\∃cs,Blk c w.heap.size t cs/\cs.size=m:=by
 unfold zFd;rw[h];exact⟨⟨rfl,cs,yJ _ _ _,b⟩,(zB _ _).alloc (xgf _) _⟩
theorem sRa{R:World->Prop}{t:TypeId}{m:Nat}{cs:Array Value}(d:∀b,W.heap.size<=b->next F (B++ [(i,b)]) C r (a.put o.dst (ptr b)))
  (c:∀w,(execOp a.eval o).run P w= .ok (.value (ptr w.heap.size)) (w.alloc (.cells cs t (0,0))):=by intro w;unfold ptr;go_simp<;>rfl) (e:cs.size=m:=by rfl)
  (f:Region.wanted o (yielded ops a.tmps)=true:=by kernel_rfl):zIH P ops W (fun a=>zU5 P ops W R i F B C next (o::r) (.al t m) a) [] a:=
 ⟨⟨f,fun w _=>zPn (c w) e⟩,d⟩
theorem sRs{R:World->Prop}{e:Nat}{c:Tmp}{d:Operand}(b:Nat)(v:Value)(h:next F B (C++ [(ptr b,t,v.cells)]) r a)(j:zJo v=true:=by kernel_rfl)(l:o.op= .store tt (.tmp c) d:=by rfl)(f:zFF P tt=some m:=by kernel_rfl)(g:v.cells.size=m:=by kernel_rfl)
  (k:a.eval (.tmp c)=ptr b:=by kernel_rfl) (hv:a.eval d=v:=by kernel_rfl) (n:Region.wanted o (yielded ops a.tmps)=true:=by kernel_rfl):zIH P ops W (fun a=>zU5 P ops W R i F B C next (o::r) (.st e t m) a) [] a:=
 ⟨n,tt,c,d,l,f,by rw[hv];exact g,by rw[hv];exact j,by rw[k,hv];exact h⟩
end
theorem zNr{R:World->Prop}{z:Int}(h:∃w,R w/\yA w v z):∃x y,v= .agg #[x,y]/\zJo (.agg #[x,y])=true:=by
 obtain⟨w,-,s,a,l,c,x,rfl,-⟩:=h;exact⟨_,_,rfl,by kernel_rfl⟩
theorem ck{f:FuncId}{args:Array Value}{G b:World->Value->Prop}(i:∀w v,G w v->b w v)(h:Calls P f args w fun e a=>∃v,e= .returned v/\G a v/\BWq w a):Calls P f args w fun e a=>∃v,e= .returned v/\b a v/\BWq w a:=
 h.mono fun _ _ ⟨v,c,d,g⟩=>⟨v,c,i _ _ d,g⟩
theorem sRe{E:Act->World->Prop}{F:zFY}(h:∀w,BWq W w->FA F w (E a w)):zIH P ops W (fun a=>∀w,BWq W w->FA F w (FC [] w (FN [] (E a w)))) [] a:=h
theorem sRf{E:Act->World->Prop}(h:∀w,BWq W w->E a w):zIH P ops W (fun a=>∀w,BWq W w->FA [] w (FC [] w (FN [] (E a w)))) [] a:=h
theorem sRb{R:World->Prop}{E:Act->World->Prop}{F:zFY}{B:zHP}{C:zHQ}(h:∀w,R w->FA F w (FC C w (FN B (E a w)))):zIH P ops W (fun a=>∀w,R w->FA F w (FC C w (FN B (E a w)))) [] a:=h
end
abbrev pcI(i:Nat)(z:Int):Nat × PK:=(i,.call [] fun w v=>yA w v z)
abbrev pcD(i:Nat)(ds:List Nat)(G:World->Value->Prop):Nat × PK:=(i,.call ds G)
abbrev pbA(i:Nat)(t:TypeId)(m:Nat):Nat × PK:=(i,.al t m)
abbrev pbE(i b:Nat)(t:TypeId)(m:Nat):Nat × PK:=(i,.es b t m)
abbrev pbS(i ai:Nat)(t:TypeId)(m:Nat):Nat × PK:=(i,.st ai t m)
attribute [go_sem] zFd zTK
end Go.Proofs.YtniiekppgdkknaaGreat
