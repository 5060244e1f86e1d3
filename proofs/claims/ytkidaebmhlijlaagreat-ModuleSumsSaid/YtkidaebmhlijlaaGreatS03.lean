/- Joined. -/
import Derived.StillTail
import Derived.Test.YtkidaebmhlijlaaGreatS01
set_option linter.unusedVariables false
set_option linter.unusedSimpArgs false
set_option linter.unusedSectionVars false
set_option maxHeartbeats 16000000
set_option maxRecDepth 100000
variable{L:Array Bool}{T T0:Array Go.Value}{z:Int}{b i j s:Nat}{o:Go.Oper}{p r u:Prop}{x x1 y1:Go.Value}{w:Go.World}
namespace Go.Proofs.YtkidaebmhlijlaaGreat
open Go.RowKit
theorem nom{α:Type _}{p:α->Prop}:∀x∈([]:List α),p x:=xgn p
section
variable {P:Program} {ops:Array Oper} {Q:Exit->Act->World->Prop}
def zCu(ops:Array Oper):Bool:=(List.range ops.size).all fun i=>((ops[i]?).map (fun o=>o.after.all fun e=>!Region.binds .any e||decide (e.on<i))).getD true
theorem zDr(h:zCu ops=true)(ho:ops[i]?=some o):∀e∈o.after,Region.binds .any e=true->e.on<i:=by
 intro e he hbd;have hi:i<ops.size:=(Array.getElem?_eq_some_iff.1 ho).1;have h1:=qW.1 h i (yI.2 hi);rw[ho]at h1;have h2:=Array.all_eq_true_iff_forall_mem.1 h1 e he;simpa[hbd]using h2
theorem zFQ(hb:zCu ops=true)(hs:L.size=ops.size)(hr:Region.ready .any ops L= []):
  ∀i,i<ops.size->L[i]?=some true:=by
 intro i;induction i using Nat.strongRecOn with
 | ind i ih=>
  intro hi;have hi':i<L.size:=by omega
  cases hc:L[i]with
  |true=>rw[Array.getElem?_eq_getElem hi',hc]
  | false=>
   exfalso;have hm:i∈Region.ready .any ops L:=by
    rw[mem_ready];refine⟨by simp[hi',hc],ops[i],Array.getElem?_eq_getElem hi,?_⟩;intro e he hbd;have hlt:=zDr hb (Array.getElem?_eq_getElem hi) e he hbd;have:=ih e.on hlt (by omega);simp[this]
   rw[hr]at hm;cases hm
theorem zJa{n:Nat}(hs:L.size=n)(h:∀i,i<n->L[i]?=some true):L=Array.replicate n true:=by
 apply zCI;simp[hs];intro i h1 h2;have:=h i (by omega);rw[Array.getElem?_eq_getElem h1]at this;simpa using this
def left(L:Array Bool):Nat:=L.toList.count false
theorem zKl(h:L[i]?=some false):left (L.setIfInBounds i true)+1=left L:=by
 unfold left;obtain⟨hi,hv⟩:=Array.getElem?_eq_some_iff.1 h;have hi':i<L.toList.length:=by simpa using hi
 rw[zAx,List.count_set hi'];have hv':L.toList[i]=false:=by simpa using hv
 have hpos:0<L.toList.count false:=List.count_pos_iff.2 (by rw[<-hv'];exact zAV hi');have e1:(L.toList[i]==false)=true:=by rw[hv'];rfl
 have e2:(true==false)=false:=rfl;rw[e1,e2];simp only[if_true,Bool.false_eq_true,if_false];omega
def zDe(o:Oper)(k:Nat):Bool:=o.after.any fun e=>Region.binds .any e && e.on==k
def yM(P:Program)(ops:Array Oper)(Q:Exit->Act->World->Prop)(ds:List Deferred)(I:Array Bool->Array Value->World->Prop)(i:Nat)(o:Oper):Prop:=
 ∀L T w,L[i]?=some false->(∀(k:Nat) (_:zDe o k=true:=by kernel_rfl),L[k]?=some true)->(∀(j:Nat) (o':Oper),ops[j]?=some o'->L[j]?=some true->∀k,zDe o' k=true->L[k]?=some true)->I L T w->∀K:Act->World->Prop,(∀T' w',I (L.setIfInBounds i true) T' w'->K ⟨T',ds⟩ w')->
   if Region.wanted o (yielded ops T)=true then Oper.wp P o ⟨T,ds⟩ w K Q else K ((⟨T,ds⟩:Act).put o.dst undef) w
theorem zK{A B:Prop}(h:Region.wanted o (yielded ops T)=true)(hh:A):if Region.wanted o (yielded ops T)=true then A else B:=by
 rw[if_pos h];exact hh
def zCV(ops:Array Oper)(L:Array Bool):Prop:=∀(j:Nat) (o':Oper),ops[j]?=some o'->L[j]?=some true->∀k,zDe o' k=true->L[k]?=some true
theorem zCV.start{n:Nat}:zCV ops (Array.replicate n false):=by
 intro j o' _ h;rw[Array.getElem?_replicate]at h;split at h<;>simp at h
theorem zBI(h:L[j]?=some true):(L.setIfInBounds i true)[j]?=some true:=by
 by_cases e:i=j
 ·subst e
  exact Array.getElem?_setIfInBounds_self_of_lt (Array.getElem?_eq_some_iff.1 h).1
 rw[xgc e];exact h
theorem zCV.set(h:zCV ops L)(ho:ops[i]?=some o)(hd:∀k,zDe o k=true->L[k]?=some true):zCV ops (L.setIfInBounds i true):=by
 intro j o' ho' hj k hk;by_cases e:i=j
 ·subst e
  have:o'=o:=zX (ho'.symm.trans ho);subst this;exact zBI (hd k hk)
 rw[xgc e]at hj;exact zBI (h j o' ho' hj k hk)
theorem zSv{I:Array Bool->Array Value->World->Prop}{ds:List Deferred}(hb:zCu ops=true)
  (hstep:∀i o,ops[i]?=some o->yM P ops Q ds I i o)
  (hend:∀T w,I (Array.replicate ops.size true) T w->Q .normal ⟨T,ds⟩ w):
  ∀(fuel:Nat) (L:Array Bool) (T:Array Value) (w:World),L.size=ops.size->left L<=fuel->zCV ops L->I L T w->wpAny P .any ops Q fuel L ⟨T,ds⟩ w:=by
 intro fuel;induction fuel with
 | zero=>
  intro L T w hs hl hcl hI;have hall:∀i,i<ops.size->L[i]?=some true:=by
   intro i hi;have hi':i<L.size:=by omega
   cases hc:L[i]with
   |true=>rw[Array.getElem?_eq_getElem hi',hc]
   |false=>
    exfalso;have:=zKl (L:=L) (i:=i) (by rw[Array.getElem?_eq_getElem hi',hc]);omega
  have hL:=zJa hs hall;refine⟨?_,hend T w (hL ▸ hI)⟩;cases hr:Region.ready .any ops L with
  |nil=>rfl
  |cons x xs=>
   have hx:x∈Region.ready .any ops L:=by rw[hr];simp
   rw[mem_ready]at hx;obtain⟨h0,o,ho,-⟩:=hx;have hx':x<ops.size:=(Array.getElem?_eq_some_iff.1 ho).1;have:=hall x hx';simp[this]at h0
 | succ fuel ih=>
  intro L T w hs hl hcl hI;refine⟨fun hr=>hend T w (zJa hs (zFQ hb hs hr) ▸ hI),?_⟩;intro i hi;obtain⟨h0,o,ho,hall⟩:=mem_ready.1 hi;have hio:i<ops.size:=(Array.getElem?_eq_some_iff.1 ho).1;have hiL:i<L.size:=by omega
  have hLi:L[i]?=some false:=by
   rw[Array.getElem?_eq_getElem hiL];simpa[hiL]using h0
  have hdep:∀k,zDe o k=true->L[k]?=some true:=by
   intro k hk;unfold zDe at hk;rw[<-zAz,zAj]at hk;obtain⟨e,he,hk⟩:=hk;have he:=Array.mem_toList_iff.1 he;simp only[Bool.and_eq_true,beq_iff_eq]at hk;obtain⟨hbd,hon⟩:=hk;subst hon;have hlt:=zDr hb ho e he hbd;have h1:=hall e he hbd;have h2:e.on<L.size:=by omega
   rw[Array.getElem?_eq_getElem h2];simpa[h2]using h1
  have hls:=zKl hLi;refine wpOp_step ho (fun K' hK=>?_);exact hstep i o ho L T w hLi hdep hcl hI K' (fun T' w' hI'=>hK ⟨T',ds⟩ w' (ih _ _ _ (by simp[hs]) (by omega) (hcl.set ho hdep) hI'))
theorem zLE{id:Nat}{T0:Array Value}{ds:List Deferred}{w:World}(hm:P.follows .mixedOrders=true)(I:Array Bool->Array Value->World->Prop)(hb:zCu ops=true)
  (h0:I (Array.replicate ops.size false) T0 w.drew)
  (hstep:∀i o,ops[i]?=some o->yM P ops Q ds I i o)
  (hend:∀T w,I (Array.replicate ops.size true) T w->Q .normal ⟨T,ds⟩ w):(Code.region id ops true).wp P Q ⟨T0,ds⟩ w:=
 wp_region_any hm (zSv hb hstep hend ops.size _ T0 _ (by simp) (by
  unfold left
  rw[Array.toList_replicate,zCO]
  simp) zCV.start h0)
def zIL(p:Nat->Oper->Prop):Nat->List Oper->Prop
 |_,[]=>True
 |i,o::os=>p i o/\zIL p (i+1) os
theorem zIL.get{p:Nat->Oper->Prop}:∀{l:List Oper} {k:Nat},zIL p k l->∀i o,l[i]?=some o->p (k+i) o
 | [],_,_,i,o,h=>by simp at h
 | x::xs,k,hh,i,o,h=>by
  cases i with
  |zero=>simp at h;subst h;exact hh.1
  |succ i=>
   have:=zIL.get hh.2 i o (by simpa using h);rwa[show k+1+i=k+(i+1) by omega]at this
theorem zCx{id:Nat}{os:List Oper}{T0:Array Value}{ds:List Deferred}{w:World}(hm:P.follows .mixedOrders=true)(I:Array Bool->Array Value->World->Prop)(hb:zCu os.toArray=true)
  (h0:I (Array.replicate os.length false) T0 w.drew)
  (hend:∀T w,I (Array.replicate os.length true) T w->Q .normal ⟨T,ds⟩ w)
  (hstep:zIL (yM P os.toArray Q ds I) 0 os):(Code.region id os.toArray true).wp P Q ⟨T0,ds⟩ w:=
 zLE hm I hb (by simpa using h0) (fun i o ho=>by
  have:=hstep.get i o (by simpa using ho);rw[zAX]at this;exact this) (by simpa using hend)
end
section
variable {P:Program} {l:List Oper} {Q:Exit->Act->World->Prop}
def zIg(n m:Nat):Array Bool:=(List.replicate n true++List.replicate (m-n) false).toArray
def zM4(l:List Oper)(n:Nat):Bool:=
 decide (n<l.length) && zCu l.toArray && Region.sinkB .any l.toArray n && Region.chainB .any l.toArray n && Region.seqB .any l.toArray (l.length-n) n (zIg n l.length)
theorem zRd{n:Nat}(hs:n<=L.size)(ht:∀t,n<=t->t<L.size->L[t]?=some false)(hl:left L=L.size-n):L=zIg n L.size:=by
 have h1:L.toList=L.toList.take n++L.toList.drop n:=(List.take_append_drop n _).symm;have h2:L.toList.drop n=List.replicate (L.size-n) false:=by
  apply qO;simp;intro i hi _;simp only[List.getElem_drop,List.getElem_replicate];have:=ht (n+i) (by omega) (by simp at hi;omega);obtain⟨_,h⟩:=Array.getElem?_eq_some_iff.1 this;simpa using h
 have h3:(L.toList.take n).count false=0:=by
  unfold left at hl;rw[h1,List.count_append,h2,zCO]at hl;simp at hl;simpa using hl
 have h4:L.toList.take n=List.replicate n true:=by
  rw[List.eq_replicate_iff];refine⟨by simp;omega,fun b hb=>?_⟩;cases b with
  |true=>rfl
  |false=>exact absurd hb (List.count_eq_zero.1 h3)
 apply Array.toList_inj.1;rw[h1,h2,h4];simp[zIg]
theorem zQK{n:Nat}{I:Array Bool->Array Value->World->Prop}{ds:List Deferred}(hB:zM4 l n=true)
  (hstep:∀i o,l[i]?=some o->i<n->yM P l.toArray Q ds I i o)
  (hend:∀T w,I (zIg n l.length) T w->wpList P l.toArray Q (l.drop n) ⟨T,ds⟩ w):
  ∀(f:Nat) (L:Array Bool) (T:Array Value) (w:World),HeadInv .any l.toArray n L->left L=f+(l.length-n)->zCV l.toArray L->I L T w->wpAny P .any l.toArray Q (f+(l.length-n)) L ⟨T,ds⟩ w:=by
 unfold zM4 at hB;simp only[Bool.and_eq_true,decide_eq_true_eq]at hB;obtain⟨⟨⟨⟨hn,hb⟩,hsk⟩,hch⟩,hsq⟩:=hB;have htl:∀{L:Array Bool},HeadInv .any l.toArray n L->∀t,n<=t->t<L.size->L[t]?=some false:=by
  intro L inv t ht hts;have:=inv.tail t ht (by have:=inv.size;omega);rw[Array.getElem?_eq_getElem hts];simpa[hts]using this
 intro f;induction f with
 | zero=>
  intro L T w inv hl hcl hI;have hsz:L.size=l.length:=by simpa using inv.size
  have hL:L=zIg n l.length:=by
   have:=zRd (L:=L) (n:=n) (by omega) (htl inv) (by rw[hl,hsz];omega);rwa[hsz]at this
  subst hL;rw[zAX];have hdl:(l.drop n).length=l.length-n:=by simp
  have:=wpAny_of_seq (P:=P) (md:=.any) (ops:=l.toArray) (Q':=Q) (l.drop n) n (zIg n l.length) ⟨T,ds⟩ w (fun j=>by simp[List.getElem?_drop]) (by rw[hdl];exact hsq) (hend T w hI);rwa[hdl]at this
 | succ f ih=>
  intro L T w inv hl hcl hI;have hsz:L.size=l.length:=by simpa using inv.size
  rw [show f+1+(l.length-n)=(f+(l.length-n))+1 by omega];have hex:∃i,i<n/\L[i]?=some false:=by
   refine zM fun hno=>?_
   have hall:∀i,i<n->L[i]?=some true:=by
    intro i hi;have hi':i<L.size:=by omega
    cases hc:L[i]with
    |true=>rw[Array.getElem?_eq_getElem hi',hc]
    |false=>exact absurd ⟨i,hi,by rw[Array.getElem?_eq_getElem hi',hc]⟩ hno
   have hLe:L=zIg n l.length:=by
    apply zAf;intro j;unfold zIg;rcases zG j n with hj|hj
    rw[hall j hj];simp[List.getElem?_append,hj];rcases zG j L.size with hj2|hj2
    ·rw[htl inv j hj hj2]
     have:j-n<l.length-n:=by omega
     simp[List.getElem?_append,Nat.not_lt.2 hj,this]
    rw[Array.getElem?_eq_none hj2];symm;simp;try omega
   rw[hLe]at hl;unfold left zIg at hl;simp[List.count_replicate]at hl
  obtain⟨i0,hi0,hun⟩:=hex;have hun':L.getD i0 true=false:=by
   obtain⟨h1,h2⟩:=Array.getElem?_eq_some_iff.1 hun;simp[h1,h2]
  refine⟨fun hr=>?_,?_⟩
  ·have:=zFQ hb inv.size hr i0 (by simp;omega)
   rw[this]at hun;cases hun
  intro i hi;have hin:i<n:=by
   rcases zG i n with h|h
   exact h;exact absurd hi (tail_waits hsk hch (by simpa using hn) inv _ i0 rfl hi0 hun' i h)
  obtain⟨h0,o,ho,hall⟩:=mem_ready.1 hi;have hio:i<l.length:=by have:=(Array.getElem?_eq_some_iff.1 ho).1;simpa using this
  have hiL:i<L.size:=by omega
  have hLi:L[i]?=some false:=by
   rw[Array.getElem?_eq_getElem hiL];simpa[hiL]using h0
  have hdep:∀k,zDe o k=true->L[k]?=some true:=by
   intro k hk;unfold zDe at hk;rw[<-zAz,zAj]at hk;obtain⟨e,he,hk⟩:=hk;have he:=Array.mem_toList_iff.1 he;simp only[Bool.and_eq_true,beq_iff_eq]at hk;obtain⟨hbd,hon⟩:=hk;subst hon;have hlt:=zDr hb ho e he hbd;have h1:=hall e he hbd;have h2:e.on<L.size:=by omega
   rw[Array.getElem?_eq_getElem h2];simpa[h2]using h1
  have hls:=zKl hLi;refine wpOp_step ho (fun K' hK=>?_);exact hstep i o (by simpa using ho) hin L T w hLi hdep hcl hI K' (fun T' w' hI'=>hK ⟨T',ds⟩ w' (ih _ _ _ (inv.set hi hin) (by omega) (hcl.set ho hdep) hI'))
theorem zBM{id:Nat}{T0:Array Value}{ds:List Deferred}{w:World}(n:Nat)(hm:P.follows .mixedOrders=true)(I:Array Bool->Array Value->World->Prop)(hB:zM4 l n=true)
  (h0:I (Array.replicate l.length false) T0 w.drew)
  (hend:∀T w,I (zIg n l.length) T w->wpList P l.toArray Q (l.drop n) ⟨T,ds⟩ w)
  (hstep:zIL (yM P l.toArray Q ds I) 0 (l.take n)):(Code.region id l.toArray true).wp P Q ⟨T0,ds⟩ w:=by
 have hn:n<l.length:=by
  unfold zM4 at hB;simp only[Bool.and_eq_true,decide_eq_true_eq]at hB;exact hB.1.1.1.1
 have hst:∀i o,l[i]?=some o->i<n->yM P l.toArray Q ds I i o:=by
  intro i o ho hi;have:=hstep.get i o (by rw[List.getElem?_take_of_lt hi];exact ho);rw[zAX]at this;exact this
 have inv0:HeadInv .any l.toArray n (Array.replicate l.toArray.size false):=
  ⟨by simp,fun j oj _ hl=>(by rw[getD_replicate_false]at hl;cases hl),fun t _ ht=>getD_in (by simpa using ht) (getD_replicate_false _ _)⟩
 have H:=zQK hB hst hend n (Array.replicate l.toArray.size false) T0 w.drew inv0 (by unfold left;rw[Array.toList_replicate,zCO];simp;omega) zCV.start (by simpa using h0);refine wp_region_any hm ?_;rw[show n+(l.length-n)=l.toArray.size by simp;omega]at H;exact H
end
theorem zED:∀(kv:List (Nat × Value)) {T T0:Array Value},(∀j,(∀p∈kv,p.1≠j)->T[j]?=T0[j]?)->(∀p∈kv,T[p.1]?=some p.2)->T.size=T0.size->
  T=kv.foldl (fun a p=>a.setIfInBounds p.1 p.2) T0
 | [],T,T0,h,_,_=>zAf (fun j=>h j (fun p hp=>by cases hp))
 | (k,v)::kv,T,T0,h,hv,hs=>by
  refine zED kv (T0:=T0.setIfInBounds k v) ?_ (fun p hp=>hv p (zR _ hp)) (by simp[hs]);intro j hj;have hk:=hv (k,v) (by simp);by_cases e:k=j
  ·subst e
   have hlt:k<T0.size:=by rw[<-hs];exact(Array.getElem?_eq_some_iff.1 hk).1
   rw[Array.getElem?_setIfInBounds_self_of_lt hlt];exact hk
  rw[xgc e];refine h j ?_;intro p hp;rcases List.mem_cons.1 hp with e1|hp
  rw[e1];exact e;exact hj p hp
theorem qY{α β:Type}{f:α->β}:∀{l:List α},(l.map f).Nodup->∀{a b:α},a∈l->b∈l->f a=f b->a=b
 | [],_,_,_,h,_,_=>by cases h
 | x::xs,hn,a,b,ha,hb,he=>by
  rw[zCz,zBw]at hn;obtain⟨h1,h2⟩:=hn;rcases List.mem_cons.1 ha with e1|ha'
  ·rcases List.mem_cons.1 hb with e2|hb'
   ·rw[e1,e2]
   exact absurd (List.mem_map.2 ⟨b,hb',by rw[<-he,e1]⟩) h1
  rcases List.mem_cons.1 hb with e2|hb'
  exact absurd (List.mem_map.2 ⟨a,ha',by rw[he,e2]⟩) h1;exact qY h2 ha' hb' he
/-! ### The invariant: values in their slots,boxes of two cells -/
theorem Blk.below'{w':World}{g:Nat}{t:TypeId}{cs:Array Value}{B:Nat}(h:Blk w g t cs)(hb:Below B w w')(hg:g<B):Blk w' g t cs:=(hb.block g hg).trans h
structure zAN(p:Prop):Prop where
 out:p
theorem xgv(h:p):zAN p:=⟨h⟩
theorem xgw(h:p):Hid p:=zI h
structure VS where
 op:Nat
 slot:Nat
 P:World->Value->Prop
structure BS where
 al:Nat
 slot:Nat
 st:Nat
 P:World->Value->Prop
def zHD(P:World->Value->Prop):Prop:=∀w w' v,zBq w w'->P w v->P w' v
theorem zEt(z:Int):zHD (fun w v=>jT w v z):=fun _ _ _ e h=>h.ext e
theorem zKi(x:Value):zHD (fun _ v=>v=x):=fun _ _ _ _ h=>h
def ptr(b:Nat):Value:=.pointer (some ⟨b,0,none⟩)
structure ES where
 st:Nat
 blk:Nat
 P:World->Value->Prop
def zFR(N:Nat)(vs:List VS)(bs:List BS)(es:List ES):Bool:=
 let slots:=vs.map (·.slot)++bs.map (·.slot)
 let ops:=vs.map (·.op)++bs.map (·.al)++(bs.map (·.st)++es.map (·.st))
 decide slots.Nodup && decide ops.Nodup && slots.all (fun s=>decide (s<N))
structure RI(W:World)(n0:Nat)(T0:Array Value)(tB:TypeId)(vs:List VS)(bs:List BS)(es:List ES)(L:Array Bool)(T:Array Value)(w:World):Prop where
 wf:zFR T0.size vs bs es=true
 tb:tB≠tU
 lv:∀s∈vs,zHD s.P
 lb:∀s∈bs,zHD s.P
 le:∀s∈es,zHD s.P
 eb:∀s∈es,s.blk<n0
 ed:∀s∈es,∀t∈es,s.st≠t.st->s.blk≠t.blk
 size:T.size=T0.size
 keep:∀j,(∀s∈vs,s.slot≠j)->(∀s∈bs,s.slot≠j)->T[j]?=T0[j]?
 bel0:Below 0 W w
 old:∀k,k<n0->(∀s∈es,s.blk≠k)->w.heap[k]?=W.heap[k]?
 lext:zBq W w
 ge:n0<=w.heap.size
 sto:∀s∈bs,L[s.st]?=some true->L[s.al]?=some true
 val:∀s∈vs,L[s.op]?=some true->∃v,T[s.slot]?=some v/\s.P w v
 box:∀s∈bs,L[s.al]?=some true->∃b x y,T[s.slot]?=some (ptr b)/\n0<=b/\Blk w b tB #[x,y]/\(L[s.st]?=some true->s.P w (.agg #[x,y]))
 far:∀s∈bs,∀t∈bs,s.al≠t.al->L[s.al]?=some true->L[t.al]?=some true->∀b c,T[s.slot]?=some (ptr b)->T[t.slot]?=some (ptr c)->b≠c
 ex:∀s∈es,(∃x y,Blk w s.blk tB #[x,y]/\(L[s.st]?=some true->s.P w (.agg #[x,y])))/\(L[s.st]?≠some true->w.heap[s.blk]?=W.heap[s.blk]?)
section
variable {W:World} {n0:Nat} {T0:Array Value} {tB:TypeId} {vs:List VS} {bs:List BS} {es:List ES} {L:Array Bool} {T:Array Value} {w w':World}
theorem qU(h:(L.setIfInBounds i true)[j]?=some true)(hne:i≠j):L[j]?=some true:=by
 rwa[xgc hne]at h
theorem zIz(h:(L.setIfInBounds i true)[j]?≠some true):L[j]?≠some true:=fun hh=>h (zBI hh)
theorem RI.start(hwf:zFR T0.size vs bs es=true:=by kernel_rfl)(htb:tB≠tU:=by decide)(hv:∀s∈vs,zHD s.P:=by repeat' (first|exact zEt _|exact zKi _|assumption|refine xgm.2 ⟨?_,?_⟩|exact xgn _))(hbs:∀s∈bs,zHD s.P:=by repeat' (first|exact zEt _|exact zKi _|assumption|refine xgm.2 ⟨?_,?_⟩|exact xgn _))(hes:∀s∈es,zHD s.P:=by repeat' (first|exact zEt _|exact zKi _|assumption|refine xgm.2 ⟨?_,?_⟩|exact xgn _))(heb:∀s∈es,s.blk<n0:=by repeat' (first|refine xgm.2 ⟨?_,?_⟩|exact xgn _|(dsimp only;omega)))
  (hed:∀s∈es,∀t∈es,s.st≠t.st->s.blk≠t.blk:=by repeat' (first|refine xgm.2 ⟨?_,?_⟩|exact xgn _|(intro h;exact absurd rfl h)|(intro _;dsimp only;omega))) (hex:∀s∈es,∃x y,Blk W s.blk tB #[x,y]:=by repeat' (first|refine xgm.2 ⟨?_,?_⟩|exact xgn _|exact⟨_,_,by assumption⟩)) (hge:n0<=W.heap.size:=by first|exact xgf _|omega) {n:Nat}:RI W n0 T0 tB vs bs es (Array.replicate n false) T0 W.drew:=by
 have hf:∀k:Nat,(Array.replicate n false)[k]?≠some true:=by
  intro k h;rw[Array.getElem?_replicate]at h;split at h<;>simp at h
 exact⟨hwf,htb,hv,hbs,hes,heb,hed,rfl,fun _ _ _=>rfl,(zA _ _).drew,fun _ _ _=>rfl,zBq.refl W,hge,fun s _ h=>absurd h (hf _),fun s _ h=>absurd h (hf _),fun s _ h=>absurd h (hf _),fun s _ t _ _ h=>absurd h (hf _),
  fun s hs=>⟨(hex s hs).elim fun x h=>h.elim fun y h=>⟨x,y,h,fun hh=>absurd hh (hf _)⟩,fun _=>rfl⟩⟩
theorem RI.world(h:RI W n0 T0 tB vs bs es L T w)(hb:Below w.heap.size w w'):RI W n0 T0 tB vs bs es L T w':=by
 have hx:zBq w w':=zBq.below hb (xgf _);refine⟨h.wf,h.tb,h.lv,h.lb,h.le,h.eb,h.ed,h.size,h.keep,h.bel0.trans (hb.mono (zE _)),fun k hk hn=>(hb.block k (zH hk h.ge)).trans (h.old k hk hn),h.lext.trans hx,zB h.ge hb.size,h.sto,?_,?_,h.far,?_⟩
 ·intro s hs hl
  obtain⟨v,h1,h2⟩:=h.val s hs hl;exact⟨v,h1,h.lv s hs _ _ _ hx h2⟩
 ·intro s hs hl
  obtain⟨b,x,y,h1,h2,h3,h4⟩:=h.box s hs hl;exact⟨b,x,y,h1,h2,h3.below hb,fun hh=>h.lb s hs _ _ _ hx (h4 hh)⟩
 intro s hs;obtain⟨⟨x,y,h1,h2⟩,h3⟩:=h.ex s hs;exact⟨⟨x,y,h1.below hb,fun hh=>h.le s hs _ _ _ hx (h2 hh)⟩,fun hh=>(hb.block _ h1.lt).trans (h3 hh)⟩
theorem zFR.parts{N:Nat}(hwf:zFR N vs bs es=true):
  (∀s∈vs,s.slot<N)/\(∀s∈bs,s.slot<N)∧
  (∀s∈vs,∀t∈vs,t≠s->t.op≠s.op/\t.slot≠s.slot)∧
  (∀s∈bs,∀t∈bs,t≠s->t.al≠s.al/\t.slot≠s.slot/\t.st≠s.st)∧
  (∀s∈vs,∀t∈bs,s.op≠t.al/\s.op≠t.st/\s.slot≠t.slot)∧
  (∀s∈bs,∀t∈bs,s.al≠t.st)∧
  (∀s∈es,∀t∈es,t≠s->t.st≠s.st)∧
  (∀s∈es,(∀t∈vs,s.st≠t.op)/\∀t∈bs,s.st≠t.al/\s.st≠t.st):=by
 unfold zFR at hwf;simp only[Bool.and_eq_true,decide_eq_true_eq,List.all_eq_true]at hwf;obtain⟨⟨hw1,hw2⟩,hw3⟩:=hwf;rw[yF]at hw1;obtain⟨hw1a,hw1b,hw1c⟩:=hw1;rw[yF]at hw2;obtain⟨hw2a,hw2b,hw2c⟩:=hw2;rw[yF]at hw2a hw2b;obtain⟨hw2d,hw2e,hw2f⟩:=hw2a;obtain⟨hw2g,hw2h,hw2i⟩:=hw2b;have mv:∀s∈vs,s.op∈vs.map (·.op):=fun s hs=>List.mem_map.2 ⟨s,hs,rfl⟩
 have mvs:∀s∈vs,s.slot∈vs.map (·.slot):=fun s hs=>List.mem_map.2 ⟨s,hs,rfl⟩
 have mba:∀s∈bs,s.al∈bs.map (·.al):=fun s hs=>List.mem_map.2 ⟨s,hs,rfl⟩
 have mbs:∀s∈bs,s.slot∈bs.map (·.slot):=fun s hs=>List.mem_map.2 ⟨s,hs,rfl⟩
 have mbt:∀s∈bs,s.st∈bs.map (·.st):=fun s hs=>List.mem_map.2 ⟨s,hs,rfl⟩
 have mes:∀s∈es,s.st∈es.map (·.st):=fun s hs=>List.mem_map.2 ⟨s,hs,rfl⟩
 refine⟨fun s hs=>hw3 _ (zAB _ (mvs s hs)),fun s hs=>hw3 _ (zA4 _ (mbs s hs)),?_,?_,?_,?_,?_,?_⟩;exact fun s hs t ht hne=>⟨fun e=>hne (qY hw2d ht hs e),fun e=>hne (qY hw1a ht hs e)⟩
 exact fun s hs t ht hne=>⟨fun e=>hne (qY hw2e ht hs e),fun e=>hne (qY hw1b ht hs e),fun e=>hne (qY hw2g ht hs e)⟩
 exact fun s hs t ht=>⟨hw2f _ (mv s hs) _ (mba t ht),hw2c _ (zAB _ (mv s hs)) _ (zAB _ (mbt t ht)),hw1c _ (mvs s hs) _ (mbs t ht)⟩
 exact fun s hs t ht=>hw2c _ (zA4 _ (mba s hs)) _ (zAB _ (mbt t ht))
 exact fun s hs t ht hne e=>hne (qY hw2h ht hs e)
 exact fun s hs=>⟨fun t ht=>zP (hw2c _ (zAB _ (mv t ht)) _ (zA4 _ (mes s hs))),
  fun t ht=>⟨zP (hw2c _ (zA4 _ (mba t ht)) _ (zA4 _ (mes s hs))),zP (hw2i _ (mbt t ht) _ (mes s hs))⟩⟩
theorem RI.value{k:Nat}{v:Value}(h:RI W n0 T0 tB vs bs es L T w)(s:VS)(hs:s∈vs)(hk:s.op=k)(hP:s.P w v):
  RI W n0 T0 tB vs bs es (L.setIfInBounds k true) (T.setIfInBounds s.slot v) w:=by
 subst hk;obtain⟨p1,p2,p3,p4,p5,p6,p7,p8⟩:=zFR.parts h.wf;refine⟨h.wf,h.tb,h.lv,h.lb,h.le,h.eb,h.ed,by simp[h.size],fun j h1 h2=>by rw[xgc (h1 s hs)];exact h.keep j h1 h2,h.bel0,h.old,h.lext,h.ge,
  fun t ht hl=>zBI (h.sto t ht (qU hl (p5 s hs t ht).2.1)),?_,?_,?_,?_⟩
 ·intro t ht hl
  by_cases he:t=s
  ·subst he
   exact⟨v,by rw[Array.getElem?_setIfInBounds_self_of_lt (by rw[h.size];exact p1 _ hs)],hP⟩
  obtain⟨n1,n2⟩:=p3 s hs t ht he;obtain⟨u,h1,h2⟩:=h.val t ht (qU hl (zP n1));exact⟨u,by rw[xgc (zP n2)];exact h1,h2⟩
 ·intro t ht hl
  obtain⟨n1,n2,n3⟩:=p5 s hs t ht;obtain⟨b,x,y,h1,h2,h3,h4⟩:=h.box t ht (qU hl n1);exact⟨b,x,y,by rw[xgc n3];exact h1,h2,h3,fun hh=>h4 (qU hh n2)⟩
 ·intro t ht u hu hne hl1 hl2 b c e1 e2
  obtain⟨n1,n2,n3⟩:=p5 s hs t ht;obtain⟨m1,m2,m3⟩:=p5 s hs u hu;rw[xgc n3]at e1;rw[xgc m3]at e2;exact h.far t ht u hu hne (qU hl1 n1) (qU hl2 m1) b c e1 e2
 intro t ht;have n1:=(p8 t ht).1 s hs;obtain⟨⟨x,y,h1,h2⟩,h3⟩:=h.ex t ht;exact⟨⟨x,y,h1,fun hh=>h2 (qU hh (zP n1))⟩,fun hh=>h3 (zIz hh)⟩
theorem RI.v{s:VS}(h:RI W n0 T0 tB vs bs es L T w)(hs:s∈vs)(hl:L[s.op]?=some true):∃v,T[s.slot]?=some v/\s.P w v:=h.val s hs hl
theorem RI.y{k:Nat}{v:Value}(h:RI W n0 T0 tB vs bs es L T w){s:VS}(hs:s∈vs)(hP:s.P w v)(hk:s.op=k:=by rfl):RI W n0 T0 tB vs bs es (L.setIfInBounds k true) (T.setIfInBounds s.slot v) w:=h.value s hs hk hP
theorem RI.alloc{k:Nat}{x0 y0:Value}(h:RI W n0 T0 tB vs bs es L T w)(s:BS)(hs:s∈bs)(hk:s.al=k)(hL:L[k]?=some false):
  RI W n0 T0 tB vs bs es (L.setIfInBounds k true) (T.setIfInBounds s.slot (ptr w.heap.size)) (w.alloc (.cells #[x0,y0] tB)):=by
 subst hk;obtain⟨p1,p2,p3,p4,p5,p6,p7,p8⟩:=zFR.parts h.wf;have hslot:=p2 s hs;have hb:Below w.heap.size w (w.alloc (.cells #[x0,y0] tB)):=(zA _ _).alloc (xgf _) _;have hx:=zBq.below hb (xgf _);have hst:L[s.st]?≠some true:=fun hh=>by have:=h.sto s hs hh;rw[hL]at this;cases this
 have hlook:∀t∈bs,L[t.al]?=some true->∀b,T[t.slot]?=some (ptr b)->b<w.heap.size:=by
  intro t ht hl b hb;obtain⟨b',x,y,h1,h2,h3,-⟩:=h.box t ht hl;rw[h1]at hb;injection hb with hb
  injection hb with hb
  injection hb with hb
  injection hb with hb
  subst hb;exact h3.lt
 refine⟨h.wf,h.tb,h.lv,h.lb,h.le,h.eb,h.ed,by simp[h.size],fun j h1 h2=>by rw[xgc (h2 s hs)];exact h.keep j h1 h2,h.bel0.trans (hb.mono (zE _)),
  fun k hk hn=>(hb.block k (zH hk h.ge)).trans (h.old k hk hn),h.lext.trans hx,zB h.ge hb.size,fun t ht hl=>zBI (h.sto t ht (qU hl (p6 s hs t ht))),?_,?_,?_,?_⟩
 ·intro t ht hl
  obtain⟨n1,n2,n3⟩:=p5 t ht s hs;obtain⟨u,h1,h2⟩:=h.val t ht (qU hl (zP n1));exact⟨u,by rw[xgc (zP n3)];exact h1,h.lv t ht _ _ _ hx h2⟩
 ·intro t ht hl
  by_cases he:t=s
  ·subst he
   exact⟨w.heap.size,x0,y0,by rw[Array.getElem?_setIfInBounds_self_of_lt (by rw[h.size];exact hslot)],h.ge,qQ _ _ _,fun hh=>absurd (qU hh (p6 _ hs _ hs)) hst⟩
  obtain⟨n1,n2,n3⟩:=p4 s hs t ht he;obtain⟨b,x,y,h1,h2,h3,h4⟩:=h.box t ht (qU hl (zP n1));exact⟨b,x,y,by rw[xgc (zP n2)];exact h1,h2,h3.below hb,fun hh=>h.lb t ht _ _ _ hx (h4 (qU hh (p6 s hs t ht)))⟩
 ·intro t ht u hu hne hl1 hl2 b c e1 e2
  by_cases he:t=s
  ·subst he
   have hu':u≠t:=fun e=>hne (by rw[e])
   obtain⟨n1,n2,-⟩:=p4 _ hs u hu hu';rw[Array.getElem?_setIfInBounds_self_of_lt (by rw[h.size];exact hslot)]at e1;rw[xgc (zP n2)]at e2;injection e1 with e1
   injection e1 with e1
   injection e1 with e1
   injection e1 with e1
   have:=hlook u hu (qU hl2 (zP n1)) c e2;omega
  obtain⟨n1,n2,-⟩:=p4 s hs t ht he;rw[xgc (zP n2)]at e1;by_cases he2:u=s
  ·subst he2
   rw[Array.getElem?_setIfInBounds_self_of_lt (by rw[h.size];exact hslot)]at e2;injection e2 with e2
   injection e2 with e2
   injection e2 with e2
   injection e2 with e2
   have:=hlook t ht (qU hl1 (zP n1)) b e1;omega
  obtain⟨m1,m2,-⟩:=p4 s hs u hu he2;rw[xgc (zP m2)]at e2;exact h.far t ht u hu hne (qU hl1 (zP n1)) (qU hl2 (zP m1)) b c e1 e2
 intro t ht;have n1:=((p8 t ht).2 s hs).1;obtain⟨⟨x,y,h1,h2⟩,h3⟩:=h.ex t ht;exact⟨⟨x,y,h1.below hb,fun hh=>h.le t ht _ _ _ hx (h2 (qU hh (zP n1)))⟩,fun hh=>(hb.block _ h1.lt).trans (h3 (zIz hh))⟩
theorem RI.store{k b:Nat}{x1 y1:Value}(h:RI W n0 T0 tB vs bs es L T w)(s:BS)(hs:s∈bs)(hk:s.st=k)(hal:L[s.al]?=some true)
  (hb:T[s.slot]?=some (ptr b)) (hP:s.P w (.agg #[x1,y1])):
  RI W n0 T0 tB vs bs es (L.setIfInBounds k true) T ((w.setCell ⟨b,0,none⟩ x1).setCell ⟨b,1,none⟩ y1):=by
 subst hk;obtain⟨p1,p2,p3,p4,p5,p6,p7,p8⟩:=zFR.parts h.wf;obtain⟨b',x,y,h1,h2,h3,-⟩:=h.box s hs hal;obtain rfl:b=b':=by
  rw[h1]at hb;injection hb with hb
  injection hb with hb
  injection hb with hb
  injection hb with hb
  exact hb.symm
 have hx:=h3.lext2 h.tb x1 y1;have hbel:Below n0 w ((w.setCell ⟨b,0,none⟩ x1).setCell ⟨b,1,none⟩ y1):=((zA _ _).setCell h2 _).setCell h2 _;refine⟨h.wf,h.tb,h.lv,h.lb,h.le,h.eb,h.ed,h.size,h.keep,h.bel0.trans (hbel.mono (zE _)),fun k hk hn=>(hbel.block k hk).trans (h.old k hk hn),h.lext.trans hx,zB h.ge hbel.size,?_,?_,?_,?_,?_⟩
 ·intro t ht hl
  by_cases he:t=s
  ·subst he;exact zBI hal
  exact zBI (h.sto t ht (qU hl (zP (p4 s hs t ht he).2.2)))
 ·intro t ht hl
  obtain⟨u,e1,e2⟩:=h.val t ht (qU hl (zP (p5 t ht s hs).2.1));exact⟨u,e1,h.lv t ht _ _ _ hx e2⟩
 ·intro t ht hl
  by_cases he:t=s
  ·subst he
   exact⟨b,x1,y1,h1,h2,h3.put2 _ _,fun _=>h.lb _ hs _ _ _ hx hP⟩
  obtain⟨n1,n2,n3⟩:=p4 s hs t ht he;obtain⟨c,u,v,e1,e2,e3,e4⟩:=h.box t ht (qU hl (zP (p6 t ht s hs)));have hne:c≠b:=h.far t ht s hs n1 (qU hl (zP (p6 t ht s hs))) hal c b e1 h1;exact⟨c,u,v,e1,e2,(e3.far hne _ _).far hne _ _,fun hh=>h.lb t ht _ _ _ hx (e4 (qU hh (zP n3)))⟩
 ·intro t ht u hu hne hl1 hl2
  exact h.far t ht u hu hne (qU hl1 (zP (p6 t ht s hs))) (qU hl2 (zP (p6 u hu s hs)))
 intro t ht;have n1:=((p8 t ht).2 s hs).2;obtain⟨⟨x,y,e1,e2⟩,e3⟩:=h.ex t ht;exact⟨⟨x,y,e1.below' hbel (h.eb t ht),fun hh=>h.le t ht _ _ _ hx (e2 (qU hh (zP n1)))⟩,fun hh=>(hbel.block _ (h.eb t ht)).trans (e3 (zIz hh))⟩
theorem RI.storeE{k:Nat}(h:RI W n0 T0 tB vs bs es L T w)(s:ES)(hs:s∈es)(hk:s.st=k)(hL:L[k]?=some false)(hbk:s.blk=b)(hP:s.P w (.agg #[x1,y1])):
  RI W n0 T0 tB vs bs es (L.setIfInBounds k true) T ((w.setCell ⟨b,0,none⟩ x1).setCell ⟨b,1,none⟩ y1):=by
 subst hk;subst hbk;obtain⟨p1,p2,p3,p4,p5,p6,p7,p8⟩:=zFR.parts h.wf;obtain⟨⟨x,y,h3,-⟩,-⟩:=h.ex s hs;have hx:=h3.lext2 h.tb x1 y1;have hbel:Below 0 w ((w.setCell ⟨s.blk,0,none⟩ x1).setCell ⟨s.blk,1,none⟩ y1):=((zA _ _).setCell (zE _) _).setCell (zE _) _;have hoth:∀k,k≠s.blk->((w.setCell ⟨s.blk,0,none⟩ x1).setCell ⟨s.blk,1,none⟩ y1).heap[k]?=w.heap[k]?:=fun k hk=>
  (qR _ ⟨s.blk,1,none⟩ _ k hk).trans (qR _ ⟨s.blk,0,none⟩ _ k hk)
 refine⟨h.wf,h.tb,h.lv,h.lb,h.le,h.eb,h.ed,h.size,h.keep,h.bel0.trans hbel,fun k hk hn=>(hoth k (zP (hn s hs))).trans (h.old k hk hn),h.lext.trans hx,zB h.ge hbel.size,?_,?_,?_,?_,?_⟩;exact fun t ht hl=>zBI (h.sto t ht (qU hl ((p8 s hs).2 t ht).2))
 ·intro t ht hl
  obtain⟨u,e1,e2⟩:=h.val t ht (qU hl ((p8 s hs).1 t ht));exact⟨u,e1,h.lv t ht _ _ _ hx e2⟩
 ·intro t ht hl
  obtain⟨n1,n2⟩:=(p8 s hs).2 t ht;obtain⟨c,u,v,e1,e2,e3,e4⟩:=h.box t ht (qU hl n1);have hne:c≠s.blk:=by have:=h.eb s hs;omega
  exact⟨c,u,v,e1,e2,(e3.far hne _ _).far hne _ _,fun hh=>h.lb t ht _ _ _ hx (e4 (qU hh n2))⟩
 ·intro t ht u hu hne hl1 hl2
  exact h.far t ht u hu hne (qU hl1 ((p8 s hs).2 t ht).1) (qU hl2 ((p8 s hs).2 u hu).1)
 intro t ht;by_cases he:t=s
 ·subst he
  refine⟨⟨x1,y1,h3.put2 _ _,fun _=>h.le _ hs _ _ _ hx hP⟩,fun hh=>?_⟩;exact absurd (Array.getElem?_setIfInBounds_self_of_lt (Array.getElem?_eq_some_iff.1 hL).1) hh
 have n1:=p7 s hs t ht he;have n2:=h.ed t ht s hs n1;obtain⟨⟨x,y,e1,e2⟩,e3⟩:=h.ex t ht;exact⟨⟨x,y,(e1.far n2 _ _).far n2 _ _,fun hh=>h.le t ht _ _ _ hx (e2 (qU hh (zP n1)))⟩,fun hh=>(hoth _ n2).trans (e3 (zIz hh))⟩
theorem RI.cell{o:Nat}{v:Value}(h:RI W n0 T0 tB vs bs es L T w)(hc:W.cell? ⟨b,o,none⟩=some v)(hb:b<n0)(hn:∀s∈es,s.blk≠b):w.cell? ⟨b,o,none⟩=some v:=
 (World.cell?_of_block (w:=W) (h.old b hb hn)).trans hc
theorem RI.cellE{o:Nat}{v:Value}(h:RI W n0 T0 tB vs bs es L T w)(s:ES)(hs:s∈es)(hc:W.cell? ⟨s.blk,o,none⟩=some v)(hl:L[s.st]?≠some true):w.cell? ⟨s.blk,o,none⟩=some v:=
 (World.cell?_of_block (w:=W) ((h.ex s hs).2 hl)).trans hc
theorem RI.bel(h:RI W n0 T0 tB vs bs es L T w)(B:Nat)(hB:B<=n0)(hn:∀s∈es,B<=s.blk):Below B W w:=
 ⟨h.bel0.os,h.bel0.tape,h.bel0.output,h.bel0.size,fun k hk=>h.old k (by omega) (fun s hs=>by have:=hn s hs;omega)⟩
end
abbrev E(i s:Nat)(x:Value):VS:=⟨i,s,fun _ v=>v=x⟩
abbrev EI(i s:Nat)(z:Int):VS:=⟨i,s,fun w v=>jT w v z⟩
abbrev VP(i s b o:Nat):VS:=⟨i,s,fun _ v=>v= .pointer (some ⟨b,o,none⟩)⟩
abbrev VSl(i s b n c:Nat):VS:=⟨i,s,fun _ v=>v= .slice (some ⟨b,0,none⟩) n c⟩
abbrev VN(i s:Nat)(n:Int):VS:=⟨i,s,fun _ v=>v= .int .i64 n⟩
def Fin(w:World):List VS->Array Value->Array Value->Prop
 | [],T0,T=>T=T0
 |s::vs,T0,T=>∃v,s.P w v/\Fin w vs (T0.setIfInBounds s.slot v) T
theorem zRA{w:World}:∀(vs:List VS) {T0 T:Array Value},(∀j,(∀s∈vs,s.slot≠j)->T[j]?=T0[j]?)->(∀s∈vs,∃v,T[s.slot]?=some v/\s.P w v)->T.size=T0.size->(vs.map (·.slot)).Nodup->Fin w vs T0 T
 | [],T0,T,h,_,_,_=>zAf (fun j=>h j (fun p hp=>by cases hp))
 | s::vs,T0,T,h,hv,hs,hn=>by
  obtain⟨v,h1,h2⟩:=hv s (by simp);rw[zCz,zBw]at hn;refine⟨v,h2,zRA vs (fun j hj=>?_) (fun t ht=>hv t (zR _ ht)) (by simp[hs]) hn.2⟩;by_cases e:s.slot=j
  ·subst e
   have hlt:s.slot<T0.size:=by rw[<-hs];exact(Array.getElem?_eq_some_iff.1 h1).1
   rw[h1,Array.getElem?_setIfInBounds_self_of_lt hlt]
  rw[xgc e];exact h j (fun t ht=>by
   rcases List.mem_cons.1 ht with rfl|ht
   exact e;exact hj t ht)
def zXX(w:World)(n0:Nat)(tB:TypeId):List BS->List Nat->Array Value->Array Value->Prop
 | [],_,T0,T=>T=T0
 |b::bs,u,T0,T=>∃c x y,n0<=c/\Blk w c tB #[x,y]/\b.P w (.agg #[x,y])/\(∀d∈u,d≠c)/\zXX w n0 tB bs (c::u) (T0.setIfInBounds b.slot (ptr c)) T
def zXl(w:World)(n0:Nat)(tB:TypeId)(bs:List BS):List VS->Array Value->Array Value->Prop
 | [],T0,T=>zXX w n0 tB bs [] T0 T
 |s::vs,T0,T=>∃v,s.P w v/\zXl w n0 tB bs vs (T0.setIfInBounds s.slot v) T
theorem zOa{k:Nat}{v:Value}(h1:T[k]?=some v)(hs:T.size=T0.size)(h:k≠j->T[j]?=T0[j]?):T[j]?=(T0.setIfInBounds k v)[j]?:=by
 by_cases e:k=j
 ·subst e
  have hlt:k<T0.size:=by rw[<-hs];exact(Array.getElem?_eq_some_iff.1 h1).1
  rw[h1,Array.getElem?_setIfInBounds_self_of_lt hlt]
 rw[xgc e];exact h e
theorem zQ8{w:World}{n0:Nat}{tB:TypeId}:∀(bs:List BS) (u:List Nat) {T0 T:Array Value},(∀j,(∀s∈bs,s.slot≠j)->T[j]?=T0[j]?)->(∀s∈bs,∃c x y,T[s.slot]?=some (ptr c)/\n0<=c/\Blk w c tB #[x,y]/\s.P w (.agg #[x,y]))->T.size=T0.size->(bs.map (·.slot)).Nodup->
  (∀s∈bs,∀c,T[s.slot]?=some (ptr c)->∀d∈u,d≠c)->(∀s∈bs,∀t∈bs,s.slot≠t.slot->∀c d,T[s.slot]?=some (ptr c)->T[t.slot]?=some (ptr d)->c≠d)->zXX w n0 tB bs u T0 T
 | [],_,T0,T,h,_,_,_,_,_=>zAf (fun j=>h j (fun p hp=>by cases hp))
 | b::bs,u,T0,T,h,hv,hs,hn,hu,hf=>by
  obtain⟨c,x,y,h1,h2,h3,h4⟩:=hv b (by simp);rw[zCz,zBw]at hn;refine⟨c,x,y,h2,h3,h4,hu b (by simp) c h1,zQ8 bs _ (fun j hj=>zOa h1 hs fun e=>h j (fun t ht=>by
   rcases List.mem_cons.1 ht with rfl|ht
   exact e;exact hj t ht)) (fun t ht=>hv t (zR _ ht)) (by simp[hs]) hn.2 (fun t ht d hd e he=>?_) (fun s hs t ht=>hf s (zR _ hs) t (zR _ ht))⟩
  rcases List.mem_cons.1 he with rfl|he
  exact hf b (by simp) t (zR _ ht) (fun e=>hn.1 (List.mem_map.2 ⟨t,ht,e.symm⟩)) _ _ h1 hd;exact hu t (zR _ ht) d hd e he
theorem zQ9{w:World}{n0:Nat}{tB:TypeId}{bs:List BS}{T:Array Value}:∀(vs:List VS) {T0:Array Value},(∀j,(∀s∈vs,s.slot≠j)->(∀s∈bs,s.slot≠j)->T[j]?=T0[j]?)->(∀s∈vs,∃v,T[s.slot]?=some v/\s.P w v)->T.size=T0.size->(vs.map (·.slot)).Nodup->
  (∀T1:Array Value,(∀j,(∀s∈bs,s.slot≠j)->T[j]?=T1[j]?)->T.size=T1.size->zXX w n0 tB bs [] T1 T)->zXl w n0 tB bs vs T0 T
 | [],T0,h,_,hs,_,hb=>hb T0 (fun j hj=>h j (fun p hp=>by cases hp) hj) hs
 | s::vs,T0,h,hv,hs,hn,hb=>by
  obtain⟨v,h1,h2⟩:=hv s (by simp);rw[zCz,zBw]at hn;exact⟨v,h2,zQ9 vs (fun j hj hj2=>zOa h1 hs fun e=>h j (fun t ht=>by
   rcases List.mem_cons.1 ht with rfl|ht
   exact e;exact hj t ht) hj2) (fun t ht=>hv t (zR _ ht)) (by simp[hs]) hn.2 hb⟩
section
variable {W:World} {n0:Nat} {T0:Array Value} {tB:TypeId} {vs:List VS} {bs:List BS} {es:List ES} {L:Array Bool} {T:Array Value} {w w':World}
theorem RI.e(h:RI W n0 T0 tB vs bs es L T w)(hm:E i s x∈vs)(hl:L[i]?=some true):T[s]?=some x:=by
 obtain⟨v,h1,rfl⟩:=h.val _ hm hl;exact h1
theorem RI.vi(h:RI W n0 T0 tB vs bs es L T w)(hm:EI i s z∈vs)(hl:L[i]?=some true):∃v,T[s]?=some v/\jT w v z:=h.val _ hm hl
theorem RI.k(h:RI W n0 T0 tB vs bs es L T w)(j:Nat)(h2:T0[j]?=some x)(h1:((vs.all fun s=>!(s.slot==j)) && bs.all fun s=>!(s.slot==j))=true):T[j]?=some x:=by
 rw[zCN]at h1;exact(h.keep j (fun s hs e=>by have:=qW.1 h1.1 s hs;simp[e]at this) (fun s hs e=>by have:=qW.1 h1.2 s hs;simp[e]at this)).trans h2
theorem RI.q(h:RI W n0 T0 tB vs bs es L T w)(hm:E i s x∈vs):RI W n0 T0 tB vs bs es (L.setIfInBounds i true) (T.setIfInBounds s x) w:=h.value _ hm rfl rfl
theorem RI.n{v:Value}(h:RI W n0 T0 tB vs bs es L T w)(hm:EI i s z∈vs)(hv:jT w v z):RI W n0 T0 tB vs bs es (L.setIfInBounds i true) (T.setIfInBounds s v) w:=h.value _ hm rfl hv
theorem RI.finx(hI:RI W n0 T0 tB vs bs es L T w)(h1:(vs.all fun s=>L[s.op]?==some true)=true)(h2:(bs.all fun s=>L[s.al]?==some true && L[s.st]?==some true)=true):zXl w n0 tB bs vs T0 T:=by
 have hw:=hI.wf;unfold zFR at hw;simp only[Bool.and_eq_true,decide_eq_true_eq]at hw;have hnd:=yF.1 hw.1.1;obtain⟨p1,p2,p3,p4,p5,p6,p7,p8⟩:=zFR.parts hI.wf;have on1:∀s∈vs,L[s.op]?=some true:=fun s hs=>by have:=qW.1 h1 s hs;simpa using this
 have on2:∀s∈bs,L[s.al]?=some true/\L[s.st]?=some true:=fun s hs=>by have:=qW.1 h2 s hs;simpa using this
 refine zQ9 vs hI.keep (fun s hs=>hI.val s hs (on1 s hs)) hI.size hnd.1 fun T1 k1 k2=>zQ8 bs [] k1 (fun s hs=>?_) k2 hnd.2.1 (fun s _ c _ d hd=>by cases hd) (fun s hs t ht hne c d hc hd=>?_)
 ·obtain⟨b,x,y,g1,g2,g3,g4⟩:=hI.box s hs (on2 s hs).1
  exact⟨b,x,y,g1,g2,g3,g4 (on2 s hs).2⟩
 exact hI.far s hs t ht (p4 t ht s hs (fun e=>hne (by rw[e]))).1 (on2 s hs).1 (on2 t ht).1 c d hc hd
theorem RI.fin{G:Array Value->World->Prop}(hL:(vs.all fun s=>L[s.op]?==some true)=true)(h:∀w,zBq W w->Below n0 W w->(∀k,k<n0->w.heap[k]?=W.heap[k]?)->∀T,Fin w vs T0 T->G T w)(T:Array Value)(w:World)(hI:RI W n0 T0 tB vs [] [] L T w):G T w:=by
 refine h w hI.lext (hI.bel n0 (xgf _) (fun s hs=>by cases hs)) (fun k hk=>hI.old k hk (fun s hs=>by cases hs)) T (zRA vs (fun j hj=>hI.keep j hj (fun s hs=>by cases hs)) (fun s hs=>hI.val s hs ?_) hI.size ?_)
 ·have:=qW.1 hL s hs
  simpa using this
 have hw:=hI.wf;unfold zFR at hw;simp only[Bool.and_eq_true,decide_eq_true_eq]at hw;exact(yF.1 hw.1.1).1
end
theorem xgu(h:p:=by(go_simp;first|exact hK _ _ (hI.q mm0)|exact hK _ _ (hI.q mm1)|exact hK _ _ (hI.q mm2)|exact hK _ _ (hI.q mm3)|exact hK _ _ (hI.q mm4)|exact hK _ _ (hI.q mm5)|exact hK _ _ (hI.q mm6)|exact hK _ _ (hI.q mm7)|exact hK _ _ (hI.q mm8)|exact hK _ _ (hI.q mm9)|exact hK _ _ (hI.q zJE)|exact hK _ _ (hI.q zJF)|exact hK _ _ (hI.q zJO)|exact hK _ _ (hI.q zNL)|exact hK _ _ (hI.q zNM)|exact hK _ _ (hI.q zMc)|exact hK _ _ (hI.q zPW)|exact hK _ _ (hI.q zPX)|exact hK _ _ (hI.q zPY)|exact hK _ _ (hI.q zPZ)|exact hK _ _ (hI.q zPa)|exact hK _ _ (hI.q zPb)|exact hK _ _ (hI.q zPc)|exact hK _ _ (hI.q zPd)|exact hK _ _ (hI.q zPe)|exact hK _ _ (hI.q zQL)|exact hK _ _ (hI.q mm26)|exact hK _ _ (hI.q mm27)|exact hK _ _ (hI.q mm28)|exact hK _ _ (hI.q mm29)|exact hK _ _ (hI.q mm30)|exact hK _ _ (hI.q mm31)|exact hK _ _ (hI.q mm32)|exact hK _ _ (hI.q mm33)|exact hK _ _ (hI.q mm34)|exact hK _ _ (hI.q mm35)|exact hK _ _ (hI.q mm36)|exact hK _ _ (hI.q mm37)|exact hK _ _ (hI.q mm38)|exact hK _ _ (hI.q mm39)|exact hK _ _ (hI.q mm40))):p:=h
theorem xgs{q:Prop}(zt:q)(h:q->p:=by(intro zt;go_simp;first|exact hK _ _ (hI.q mm0)|exact hK _ _ (hI.q mm1)|exact hK _ _ (hI.q mm2)|exact hK _ _ (hI.q mm3)|exact hK _ _ (hI.q mm4)|exact hK _ _ (hI.q mm5)|exact hK _ _ (hI.q mm6)|exact hK _ _ (hI.q mm7)|exact hK _ _ (hI.q mm8)|exact hK _ _ (hI.q mm9)|exact hK _ _ (hI.q zJE)|exact hK _ _ (hI.q zJF)|exact hK _ _ (hI.q zJO)|exact hK _ _ (hI.q zNL)|exact hK _ _ (hI.q zNM)|exact hK _ _ (hI.q zMc)|exact hK _ _ (hI.q zPW)|exact hK _ _ (hI.q zPX)|exact hK _ _ (hI.q zPY)|exact hK _ _ (hI.q zPZ)|exact hK _ _ (hI.q zPa)|exact hK _ _ (hI.q zPb)|exact hK _ _ (hI.q zPc)|exact hK _ _ (hI.q zPd)|exact hK _ _ (hI.q zPe)|exact hK _ _ (hI.q zQL)|exact hK _ _ (hI.q mm26)|exact hK _ _ (hI.q mm27)|exact hK _ _ (hI.q mm28)|exact hK _ _ (hI.q mm29)|exact hK _ _ (hI.q mm30)|exact hK _ _ (hI.q mm31)|exact hK _ _ (hI.q mm32)|exact hK _ _ (hI.q mm33)|exact hK _ _ (hI.q mm34)|exact hK _ _ (hI.q mm35)|exact hK _ _ (hI.q mm36)|exact hK _ _ (hI.q mm37)|exact hK _ _ (hI.q mm38)|exact hK _ _ (hI.q mm39)|exact hK _ _ (hI.q mm40))):p:=h zt
theorem xgt{q:Prop}(z1:q)(z2:r)(h:q->r->p:=by(intro z1 z2;go_simp;first|exact hK _ _ (hI.q mm0)|exact hK _ _ (hI.q mm1)|exact hK _ _ (hI.q mm2)|exact hK _ _ (hI.q mm3)|exact hK _ _ (hI.q mm4)|exact hK _ _ (hI.q mm5)|exact hK _ _ (hI.q mm6)|exact hK _ _ (hI.q mm7)|exact hK _ _ (hI.q mm8)|exact hK _ _ (hI.q mm9)|exact hK _ _ (hI.q zJE)|exact hK _ _ (hI.q zJF)|exact hK _ _ (hI.q zJO)|exact hK _ _ (hI.q zNL)|exact hK _ _ (hI.q zNM)|exact hK _ _ (hI.q zMc)|exact hK _ _ (hI.q zPW)|exact hK _ _ (hI.q zPX)|exact hK _ _ (hI.q zPY)|exact hK _ _ (hI.q zPZ)|exact hK _ _ (hI.q zPa)|exact hK _ _ (hI.q zPb)|exact hK _ _ (hI.q zPc)|exact hK _ _ (hI.q zPd)|exact hK _ _ (hI.q zPe)|exact hK _ _ (hI.q zQL)|exact hK _ _ (hI.q mm26)|exact hK _ _ (hI.q mm27)|exact hK _ _ (hI.q mm28)|exact hK _ _ (hI.q mm29)|exact hK _ _ (hI.q mm30)|exact hK _ _ (hI.q mm31)|exact hK _ _ (hI.q mm32)|exact hK _ _ (hI.q mm33)|exact hK _ _ (hI.q mm34)|exact hK _ _ (hI.q mm35)|exact hK _ _ (hI.q mm36)|exact hK _ _ (hI.q mm37)|exact hK _ _ (hI.q mm38)|exact hK _ _ (hI.q mm39)|exact hK _ _ (hI.q mm40))):p:=h z1 z2
theorem xgo(h:p:=by(rintro e wa ⟨v,rfl,hv,hba⟩;first|exact hK _ _ ((hI.world hba).n mm0 hv)|exact hK _ _ ((hI.world hba).n mm1 hv)|exact hK _ _ ((hI.world hba).n mm2 hv)|exact hK _ _ ((hI.world hba).n mm3 hv)|exact hK _ _ ((hI.world hba).n mm4 hv)|exact hK _ _ ((hI.world hba).n mm5 hv)|exact hK _ _ ((hI.world hba).n mm6 hv)|exact hK _ _ ((hI.world hba).n mm7 hv)|exact hK _ _ ((hI.world hba).n mm8 hv)|exact hK _ _ ((hI.world hba).n mm9 hv)|exact hK _ _ ((hI.world hba).n zJE hv)|exact hK _ _ ((hI.world hba).n zJF hv)|exact hK _ _ ((hI.world hba).n zJO hv)|exact hK _ _ ((hI.world hba).n zNL hv)|exact hK _ _ ((hI.world hba).n zNM hv)|exact hK _ _ ((hI.world hba).n zMc hv)|exact hK _ _ ((hI.world hba).n zPW hv)|exact hK _ _ ((hI.world hba).n zPX hv)|exact hK _ _ ((hI.world hba).n zPY hv)|exact hK _ _ ((hI.world hba).n zPZ hv)|exact hK _ _ ((hI.world hba).n zPa hv)|exact hK _ _ ((hI.world hba).n zPb hv)|exact hK _ _ ((hI.world hba).n zPc hv)|exact hK _ _ ((hI.world hba).n zPd hv)|exact hK _ _ ((hI.world hba).n zPe hv)|exact hK _ _ ((hI.world hba).n zQL hv)|exact hK _ _ ((hI.world hba).n mm26 hv)|exact hK _ _ ((hI.world hba).n mm27 hv)|exact hK _ _ ((hI.world hba).n mm28 hv)|exact hK _ _ ((hI.world hba).n mm29 hv)|exact hK _ _ ((hI.world hba).n mm30 hv)|exact hK _ _ ((hI.world hba).n mm31 hv)|exact hK _ _ ((hI.world hba).n mm32 hv)|exact hK _ _ ((hI.world hba).n mm33 hv)|exact hK _ _ ((hI.world hba).n mm34 hv)|exact hK _ _ ((hI.world hba).n mm35 hv)|exact hK _ _ ((hI.world hba).n mm36 hv)|exact hK _ _ ((hI.world hba).n mm37 hv)|exact hK _ _ ((hI.world hba).n mm38 hv)|exact hK _ _ ((hI.world hba).n mm39 hv)|exact hK _ _ ((hI.world hba).n mm40 hv))):p:=h
theorem xgp(h:p:=by simp[Region.wanted,yielded,zg]):p:=h
theorem xgq{q:Prop}(zg:q)(h:q->p:=by(intro zg;simp[Region.wanted,yielded,zg])):p:=h zg
theorem xgE(h:p:=by(try have z0:=hI.e mm0 (hd 0);try have z1:=hI.e mm1 (hd 1);try have z2:=hI.e mm2 (hd 2);try have z3:=hI.e mm3 (hd 3);try have z4:=hI.e mm4 (hd 4);try have z5:=hI.e mm5 (hd 5);try have z6:=hI.e mm6 (hd 6);try have z7:=hI.e mm7 (hd 7);try have z8:=hI.e mm8 (hd 8);try have z9:=hI.e mm9 (hd 9);try have z10:=hI.e zJE (hd 10);try have z11:=hI.e zJF (hd 11);try have z12:=hI.e zJO (hd 12);try have z13:=hI.e zNL (hd 13);try have z14:=hI.e zNM (hd 14);try have z15:=hI.e zMc (hd 15);try have z16:=hI.e zPW (hd 16);try have z17:=hI.e zPX (hd 17);try have z18:=hI.e zPY (hd 18);try have z19:=hI.e zPZ (hd 19);try have z20:=hI.e zPa (hd 20);try have z21:=hI.e zPb (hd 21);try have z22:=hI.e zPc (hd 22);try have z23:=hI.e zPd (hd 23);try have z24:=hI.e zPe (hd 24);try have z25:=hI.e zQL (hd 25);try have z26:=hI.e mm26 (hd 26);try have z27:=hI.e mm27 (hd 27);try have z28:=hI.e mm28 (hd 28);try have z29:=hI.e mm29 (hd 29);try have z30:=hI.e mm30 (hd 30);try have z31:=hI.e mm31 (hd 31);try have z32:=hI.e mm32 (hd 32);try have z33:=hI.e mm33 (hd 33);try have z34:=hI.e mm34 (hd 34);try have z35:=hI.e mm35 (hd 35);try have z36:=hI.e mm36 (hd 36);try have z37:=hI.e mm37 (hd 37);try have z38:=hI.e mm38 (hd 38);try have z39:=hI.e mm39 (hd 39);try have z40:=hI.e mm40 (hd 40);try have y0:=hI.k 0 rfl kR;try have y1:=hI.k 1 rfl kR;try have y2:=hI.k 2 rfl kR;try have y3:=hI.k 3 rfl kR;try have y4:=hI.k 4 rfl kR;try have y5:=hI.k 5 rfl kR;try have y6:=hI.k 6 rfl kR;try have y7:=hI.k 7 rfl kR;try have y8:=hI.k 8 rfl kR;try have y9:=hI.k 9 rfl kR;try have y10:=hI.k 10 rfl kR;try have y11:=hI.k 11 rfl kR;try have y12:=hI.k 12 rfl kR;try have y13:=hI.k 13 rfl kR;try have y14:=hI.k 14 rfl kR;try have y15:=hI.k 15 rfl kR;try have y16:=hI.k 16 rfl kR;try have y17:=hI.k 17 rfl kR;try have y18:=hI.k 18 rfl kR;try have y19:=hI.k 19 rfl kR;try have y20:=hI.k 20 rfl kR;try have y21:=hI.k 21 rfl kR;try have y22:=hI.k 22 rfl kR;try have y23:=hI.k 23 rfl kR;try have y24:=hI.k 24 rfl kR;try have y25:=hI.k 25 rfl kR;go_simp;first|exact hK _ _ (hI.q mm0)|exact hK _ _ (hI.q mm1)|exact hK _ _ (hI.q mm2)|exact hK _ _ (hI.q mm3)|exact hK _ _ (hI.q mm4)|exact hK _ _ (hI.q mm5)|exact hK _ _ (hI.q mm6)|exact hK _ _ (hI.q mm7)|exact hK _ _ (hI.q mm8)|exact hK _ _ (hI.q mm9)|exact hK _ _ (hI.q zJE)|exact hK _ _ (hI.q zJF)|exact hK _ _ (hI.q zJO)|exact hK _ _ (hI.q zNL)|exact hK _ _ (hI.q zNM)|exact hK _ _ (hI.q zMc)|exact hK _ _ (hI.q zPW)|exact hK _ _ (hI.q zPX)|exact hK _ _ (hI.q zPY)|exact hK _ _ (hI.q zPZ)|exact hK _ _ (hI.q zPa)|exact hK _ _ (hI.q zPb)|exact hK _ _ (hI.q zPc)|exact hK _ _ (hI.q zPd)|exact hK _ _ (hI.q zPe)|exact hK _ _ (hI.q zQL)|exact hK _ _ (hI.q mm26)|exact hK _ _ (hI.q mm27)|exact hK _ _ (hI.q mm28)|exact hK _ _ (hI.q mm29)|exact hK _ _ (hI.q mm30)|exact hK _ _ (hI.q mm31)|exact hK _ _ (hI.q mm32)|exact hK _ _ (hI.q mm33)|exact hK _ _ (hI.q mm34)|exact hK _ _ (hI.q mm35)|exact hK _ _ (hI.q mm36)|exact hK _ _ (hI.q mm37)|exact hK _ _ (hI.q mm38)|exact hK _ _ (hI.q mm39)|exact hK _ _ (hI.q mm40))):p:=h
theorem xgz{q s t:Prop}(z1:q)(z2:r/\s/\u/\t)(h:q->r->s->u->p:=by(intro z1 z2 z3 z4;go_simp;first|exact hK _ _ (hI.q mm0)|exact hK _ _ (hI.q mm1)|exact hK _ _ (hI.q mm2)|exact hK _ _ (hI.q mm3)|exact hK _ _ (hI.q mm4)|exact hK _ _ (hI.q mm5)|exact hK _ _ (hI.q mm6)|exact hK _ _ (hI.q mm7)|exact hK _ _ (hI.q mm8)|exact hK _ _ (hI.q mm9)|exact hK _ _ (hI.q zJE)|exact hK _ _ (hI.q zJF)|exact hK _ _ (hI.q zJO)|exact hK _ _ (hI.q zNL)|exact hK _ _ (hI.q zNM)|exact hK _ _ (hI.q zMc)|exact hK _ _ (hI.q zPW)|exact hK _ _ (hI.q zPX)|exact hK _ _ (hI.q zPY)|exact hK _ _ (hI.q zPZ)|exact hK _ _ (hI.q zPa)|exact hK _ _ (hI.q zPb)|exact hK _ _ (hI.q zPc)|exact hK _ _ (hI.q zPd)|exact hK _ _ (hI.q zPe)|exact hK _ _ (hI.q zQL)|exact hK _ _ (hI.q mm26)|exact hK _ _ (hI.q mm27)|exact hK _ _ (hI.q mm28)|exact hK _ _ (hI.q mm29)|exact hK _ _ (hI.q mm30)|exact hK _ _ (hI.q mm31)|exact hK _ _ (hI.q mm32)|exact hK _ _ (hI.q mm33)|exact hK _ _ (hI.q mm34)|exact hK _ _ (hI.q mm35)|exact hK _ _ (hI.q mm36)|exact hK _ _ (hI.q mm37)|exact hK _ _ (hI.q mm38)|exact hK _ _ (hI.q mm39)|exact hK _ _ (hI.q mm40))):p:=h z1 z2.1 z2.2.1 z2.2.2.1
theorem xgx{q s:Prop}(z1:q)(z2:r)(z3:s)(h:q->r->s->p:=by(intro z1 z2 z3;go_simp;first|exact hK _ _ (hI.q mm0)|exact hK _ _ (hI.q mm1)|exact hK _ _ (hI.q mm2)|exact hK _ _ (hI.q mm3)|exact hK _ _ (hI.q mm4)|exact hK _ _ (hI.q mm5)|exact hK _ _ (hI.q mm6)|exact hK _ _ (hI.q mm7)|exact hK _ _ (hI.q mm8)|exact hK _ _ (hI.q mm9)|exact hK _ _ (hI.q zJE)|exact hK _ _ (hI.q zJF)|exact hK _ _ (hI.q zJO)|exact hK _ _ (hI.q zNL)|exact hK _ _ (hI.q zNM)|exact hK _ _ (hI.q zMc)|exact hK _ _ (hI.q zPW)|exact hK _ _ (hI.q zPX)|exact hK _ _ (hI.q zPY)|exact hK _ _ (hI.q zPZ)|exact hK _ _ (hI.q zPa)|exact hK _ _ (hI.q zPb)|exact hK _ _ (hI.q zPc)|exact hK _ _ (hI.q zPd)|exact hK _ _ (hI.q zPe)|exact hK _ _ (hI.q zQL)|exact hK _ _ (hI.q mm26)|exact hK _ _ (hI.q mm27)|exact hK _ _ (hI.q mm28)|exact hK _ _ (hI.q mm29)|exact hK _ _ (hI.q mm30)|exact hK _ _ (hI.q mm31)|exact hK _ _ (hI.q mm32)|exact hK _ _ (hI.q mm33)|exact hK _ _ (hI.q mm34)|exact hK _ _ (hI.q mm35)|exact hK _ _ (hI.q mm36)|exact hK _ _ (hI.q mm37)|exact hK _ _ (hI.q mm38)|exact hK _ _ (hI.q mm39)|exact hK _ _ (hI.q mm40))):p:=h z1 z2 z3
theorem xgy{q s:Prop}(z1:q)(z2:r)(z3:s)(z4:u)(h:q->r->s->u->p:=by(intro z1 z2 z3 z4;go_simp;first|exact hK _ _ (hI.q mm0)|exact hK _ _ (hI.q mm1)|exact hK _ _ (hI.q mm2)|exact hK _ _ (hI.q mm3)|exact hK _ _ (hI.q mm4)|exact hK _ _ (hI.q mm5)|exact hK _ _ (hI.q mm6)|exact hK _ _ (hI.q mm7)|exact hK _ _ (hI.q mm8)|exact hK _ _ (hI.q mm9)|exact hK _ _ (hI.q zJE)|exact hK _ _ (hI.q zJF)|exact hK _ _ (hI.q zJO)|exact hK _ _ (hI.q zNL)|exact hK _ _ (hI.q zNM)|exact hK _ _ (hI.q zMc)|exact hK _ _ (hI.q zPW)|exact hK _ _ (hI.q zPX)|exact hK _ _ (hI.q zPY)|exact hK _ _ (hI.q zPZ)|exact hK _ _ (hI.q zPa)|exact hK _ _ (hI.q zPb)|exact hK _ _ (hI.q zPc)|exact hK _ _ (hI.q zPd)|exact hK _ _ (hI.q zPe)|exact hK _ _ (hI.q zQL)|exact hK _ _ (hI.q mm26)|exact hK _ _ (hI.q mm27)|exact hK _ _ (hI.q mm28)|exact hK _ _ (hI.q mm29)|exact hK _ _ (hI.q mm30)|exact hK _ _ (hI.q mm31)|exact hK _ _ (hI.q mm32)|exact hK _ _ (hI.q mm33)|exact hK _ _ (hI.q mm34)|exact hK _ _ (hI.q mm35)|exact hK _ _ (hI.q mm36)|exact hK _ _ (hI.q mm37)|exact hK _ _ (hI.q mm38)|exact hK _ _ (hI.q mm39)|exact hK _ _ (hI.q mm40))):p:=h z1 z2 z3 z4
theorem zHy.uniq{v:Value}{z':Int}(h:zHy w v z)(h':zHy w v z'):z=z':=by
 obtain⟨neg,ao,n,cap,xs,rfl,h1,-,-,h2,-,rfl⟩:=h;obtain⟨neg',ao',n',cap',ys,hv,k1,-,-,k2,-,rfl⟩:=h';injection hv with hv
 simp only[Array.mk.injEq,List.cons.injEq,Value.bool.injEq,Value.slice.injEq]at hv;obtain⟨rfl,⟨rfl,e,-⟩,-⟩:=hv;have hn:xs.length=ys.length:=by rw[h1,k1];exact e
 have:xs=ys:=by
  refine qO hn fun k ha hb=>?_
  obtain⟨b,off,e1,-,hc⟩:=h2.cell ha;obtain⟨b',off',e1',-,hc'⟩:=k2.cell hb;rw[e1]at e1';injection e1' with e1'
  injection e1' with e2 e3
  subst e2;subst e3;rw[hc]at hc';injection hc' with hc'
  injection hc' with _ hc'
  have hc'':xs.getD k 0=ys.getD k 0:=by omega
  simpa[xgb,ha,hb]using hc''
 rw[this]
theorem zTf:∃f:World->Nat->Int,∀(w:World) (b:Nat) (x y:Value) (z:Int),Blk w b 43 #[x,y]->jT w (.agg #[x,y]) z->f w b=z:=by
 refine⟨fun w b=>Classical.epsilon fun z=>∃x y,Blk w b 43 #[x,y]/\jT w (.agg #[x,y]) z,fun w b x y z h1 h2=>?_⟩;have hs:=Classical.epsilon_spec (p:=fun z=>∃x y,Blk w b 43 #[x,y]/\jT w (.agg #[x,y]) z) ⟨z,x,y,h1,h2⟩;obtain⟨x',y',k1,k2⟩:=hs;unfold Blk at h1 k1;rw[h1]at k1;injection k1 with k1
 injection k1 with k1
 simp only[Array.mk.injEq,List.cons.injEq]at k1;obtain⟨rfl,rfl,-⟩:=k1;exact k2.weak.uniq h2.weak
end Go.Proofs.YtkidaebmhlijlaaGreat
