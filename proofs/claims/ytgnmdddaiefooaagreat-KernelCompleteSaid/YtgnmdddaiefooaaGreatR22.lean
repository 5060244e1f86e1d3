/- Elementary operations on rows: products, inverses, growth; and that smith's echelon form ends. Plain Lean. A mix of two rows by a matrix with determinant 1 is a list of elementary operations. Plain Lean. hermite: a run's state; join. -/
import Derived.Test.YtgnmdddaiefooaaGreatR17
import Derived.Test.YtgnmdddaiefooaaGreatR20
import Derived.Test.YtgnmdddaiefooaaGreatR21
set_option linter.unusedVariables false
set_option linter.unusedSimpArgs false
set_option linter.unusedSectionVars false
set_option maxHeartbeats 16000000
set_option maxRecDepth 100000
namespace Go.Proofs.YtgnmdddaiefooaaGreat
open Go.RowKit
inductive Op where
 |add (i j:Nat) (k:Int)
 |swap (i j:Nat)
 |neg (i:Nat)
def Op.f:Op->(Nat->Nat->Int)->(Nat->Nat->Int)
 | .add i j k,F=>jL F i j k
 | .swap i j,F=>zFb F i j
 | .neg i,F=>jQ F i
def Op.d:Op->(Nat->Nat->Int)->(Nat->Nat->Int)
 | .add i j k,F=>jL F j i (-k)
 | .swap i j,F=>zFb F i j
 | .neg i,F=>jQ F i
def Op.b(o:Op)(x:Bst):Bst:=⟨o.f x.s,o.f x.t,o.d x.i⟩
def Op.g:Op->Nat
 | .add _ _ k=>1+k.natAbs
 |_=>1
def Op.ok(n:Nat):Op->Prop
 | .add i j _=>i<n/\j<n/\i≠j
 | .swap i j=>i<n/\j<n
 | .neg i=>i<n
def zA1:List Op->(Nat->Nat->Int)->(Nat->Nat->Int)
 | [],F=>F
 |o::l,F=>zA1 l (o.f F)
def zGF:List Op->(Nat->Nat->Int)->(Nat->Nat->Int)
 | [],F=>F
 |o::l,F=>zGF l (o.d F)
def zA0:List Op->Bst->Bst
 | [],x=>x
 |o::l,x=>zA0 l (o.b x)
def gro:List Op->Nat
 | []=>1
 |o::l=>o.g*gro l
def qJ(n:Nat)(l:List Op):Prop:=∀o∈l,o.ok n
theorem zFz(l:List Op):∀x:Bst,zA0 l x=⟨zA1 l x.s,zA1 l x.t,zGF l x.i⟩:=by
 induction l with
 |nil=>intro x;rfl
 |cons o l ih=>intro x;exact ih _
theorem zD9(l m:List Op):∀x,zA0 (l++m) x=zA0 m (zA0 l x):=by
 induction l with
 |nil=>intro F;rfl
 |cons o l ih=>intro F;exact ih _
theorem qJ.app{n:Nat}{l m:List Op}(h:qJ n l)(k:qJ n m):qJ n (l++m):=fun o ho=>(List.mem_append.1 ho).elim (h o) (k o)
theorem qJ.cons{n:Nat}{o:Op}{m:List Op}(h:o.ok n)(k:qJ n m):qJ n (o::m):=fun p hp=>by
 rcases List.mem_cons.1 hp with rfl|hp
 ·exact h
 ·exact k p hp
theorem qJ.nil{n:Nat}:qJ n []:=fun o ho=>by cases ho
def leM(M n C:Nat)(F:Nat->Nat->Int):Prop:=∀a,a<n->∀b,b<C->(F a b).natAbs<=M
theorem leM.mono{M M' n C:Nat}{F:Nat->Nat->Int}(h:leM M n C F)(hM:M<=M'):leM M' n C F:=fun a ha b hb=>Nat.le_trans (h a ha b hb) hM
theorem leM.ok{M B n C:Nat}{F:Nat->Nat->Int}(h:leM M n C F)(hM:M<B):okF B n C F:=fun a ha b hb=>Nat.lt_of_le_of_lt (h a ha b hb) hM
theorem zHa{M n C i j:Nat}{k:Int}{F:Nat->Nat->Int}(h:leM M n C F)(hi:i<n)(hj:j<n):leM (M*(1+k.natAbs)) n C (jL F i j k):=by
 intro a ha b hb;unfold jL;split
 ·have h1:=h i hi b hb
  have h2:=h j hj b hb;have h3:(k*F j b).natAbs<=k.natAbs*M:=by rw[Int.natAbs_mul];exact Nat.mul_le_mul_left _ h2
  have h4:(F i b+k*F j b).natAbs<=(F i b).natAbs+(k*F j b).natAbs:=by omega
  rw[Nat.mul_add,Nat.mul_one,Nat.mul_comm M];omega
 ·exact Nat.le_trans (h a ha b hb) (Nat.le_mul_of_pos_right _ oM)
theorem zFc{i j a n:Nat}(hi:i<n)(hj:j<n)(ha:a<n):swp i j a<n:=by unfold swp;split;exact hj;split;exact hi;exact ha
theorem zKY{M n C:Nat}{o:Op}{F:Nat->Nat->Int}(h:leM M n C F)(ho:o.ok n):leM (M*o.g) n C (o.f F):=by
 cases o with
 |add i j k=>exact zHa h ho.1 ho.2.1
 |swap i j=>
  intro a ha b hb;simp only[Op.g,Nat.mul_one];exact h _ (zFc ho.1 ho.2 ha) b hb
 |neg i=>
  intro a ha b hb;simp only[Op.g,Nat.mul_one,Op.f,jQ];split
  ·rw[Int.natAbs_neg];exact h a ha b hb
  ·exact h a ha b hb
theorem zOp{M n C:Nat}{o:Op}{F:Nat->Nat->Int}(h:leM M n C F)(ho:o.ok n):leM (M*o.g) n C (o.d F):=by
 cases o with
 |add i j k=>
  have:=zHa (k:=-k) h ho.2.1 ho.1;rwa[Int.natAbs_neg]at this
 |swap i j=>exact zKY (o:=.swap i j) h ho
 |neg i=>exact zKY (o:=.neg i) h ho
theorem zIQ{n C:Nat}{l:List Op}(hl:qJ n l):∀{M:Nat} {F:Nat->Nat->Int},leM M n C F->leM (M*gro l) n C (zA1 l F):=by
 induction l with
 |nil=>intro M F h;simpa[gro,zA1]using h
 |cons o l ih=>
  intro M F h;have:=ih (fun p hp=>hl p (List.mem_cons_of_mem _ hp)) (zKY h (hl o (List.mem_cons_self ..)));rwa[Nat.mul_assoc]at this
theorem zMA{n C:Nat}{l:List Op}(hl:qJ n l):∀{M:Nat} {F:Nat->Nat->Int},leM M n C F->leM (M*gro l) n C (zGF l F):=by
 induction l with
 |nil=>intro M F h;simpa[gro,zGF]using h
 |cons o l ih=>
  intro M F h;have:=ih (fun p hp=>hl p (List.mem_cons_of_mem _ hp)) (zOp h (hl o (List.mem_cons_self ..)));rwa[Nat.mul_assoc]at this
def leB(M n Cs Ct:Nat)(x:Bst):Prop:=leM M n Cs x.s/\leM M n Ct x.t/\leM M n Ct x.i
theorem zGq{M n Cs Ct:Nat}{o:Op}{x:Bst}(h:leB M n Cs Ct x)(ho:o.ok n):leB (M*o.g) n Cs Ct (o.b x):=⟨zKY h.1 ho,zKY h.2.1 ho,zOp h.2.2 ho⟩
theorem zNt{n Cs Ct:Nat}{l:List Op}(hl:qJ n l){M:Nat}{x:Bst}(h:leB M n Cs Ct x):leB (M*gro l) n Cs Ct (zA0 l x):=by
 rw[zFz];exact⟨zIQ hl h.1,zIQ hl h.2.1,zMA hl h.2.2⟩
theorem zD7{B M n Cs Ct i j:Nat}{k:Int}{x:Bst}(h:leB M n Cs Ct x)(hi:i<n)(hj:j<n)(hij:i≠j)(hM:1<=M)(hB:M*(1+k.natAbs)<B):zBx B n Cs Ct x i j k:=by
 have e:M*(1+k.natAbs)=M+M*k.natAbs:=by rw[Nat.mul_add,Nat.mul_one]
 have hk:k.natAbs<=M*k.natAbs:=Nat.le_mul_of_pos_left _ hM;have hp:∀z:Int,z.natAbs<=M->(k*z).natAbs<B:=fun z hz=>by
  have:k.natAbs*z.natAbs<=k.natAbs*M:=Nat.mul_le_mul_left _ hz;rw[Int.natAbs_mul];rw[Nat.mul_comm k.natAbs M]at this;omega
 have h2:=zGq (o:=.add i j k) h ⟨hi,hj,hij⟩;exact⟨by omega,fun t ht=>hp _ (h.1 j hj t ht),fun t ht=>⟨hp _ (h.2.1 j hj t ht),hp _ (h.2.2 i hi t ht)⟩,h2.1.ok hB,h2.2.1.ok hB,h2.2.2.ok hB⟩
theorem zPY{n R b:Nat}{o:Op}{P F G:Nat->Nat->Int}(ho:o.ok n)(h:∀a,a<n->F a b=zI R fun t=>P a t*G t b):∀a,a<n->o.f F a b=zI R fun t=>o.f P a t*G t b:=by
 intro a ha;cases o with
 | add i j k=>
  show(if a=i then F i b+k*F j b else F a b)=zI R fun t=>(if a=i then P i t+k*P j t else P a t)*G t b
  by_cases e:a=i
  ·rw[if_pos e,h i ho.1,h j ho.2.1,<-zY,<-jF]
   refine zD fun t ht=>?_
   rw[if_pos e,Int.add_mul,Int.mul_assoc]
  ·rw[if_neg e,h a ha]
   refine zD fun t ht=>?_
   rw[if_neg e]
 |swap i j=>exact h _ (zFc ho.1 ho.2 ha)
 | neg i=>
  show(if a=i then-(F a b)else F a b)=zI R fun t=>(if a=i then-(P a t)else P a t)*G t b
  by_cases e:a=i
  ·rw[if_pos e,h a ha,<-Int.neg_one_mul,<-zY]
   refine zD fun t ht=>?_
   rw[if_pos e,Int.neg_mul,Int.neg_mul,Int.one_mul]
  ·rw[if_neg e,h a ha]
   refine zD fun t ht=>?_
   rw[if_neg e]
theorem zHg{n R b:Nat}{l:List Op}(hl:qJ n l):∀{P F G:Nat->Nat->Int},(∀a,a<n->F a b=zI R fun t=>P a t*G t b)->∀a,a<n->zA1 l F a b=zI R fun t=>zA1 l P a t*G t b:=by
 induction l with
 |nil=>intro P F G h;exact h
 |cons o l ih=>
  intro P F G h;exact ih (fun p hp=>hl p (List.mem_cons_of_mem _ hp)) (zPY (hl o (List.mem_cons_self ..)) h)
theorem zEU{n a:Nat}(ha:a<n)(G:Nat->Int):G a=zI n fun t=>idf a t*G t:=by
 rw[qU (c:=a) ha]
 ·unfold idf;rw[if_pos rfl,Int.one_mul]
 ·intro i hi hne
  unfold idf;rw[if_neg (fun e=>hne e.symm),Int.zero_mul]
theorem zDY{n:Nat}{l:List Op}(hl:qJ n l)(F:Nat->Nat->Int):∀a,a<n->∀b,zA1 l F a b=zI n fun t=>zA1 l idf a t*F t b:=
 fun a ha b=>zHg hl (fun a ha=>zEU ha fun t=>F t b) a ha
def dot(C:Nat)(P Q:Nat->Nat->Int)(a b:Nat):Int:=zI C fun t=>P a t*Q b t
theorem zOt{n C:Nat}{o:Op}{P Q:Nat->Nat->Int}(ho:o.ok n)(h:∀a,a<n->∀b,b<n->dot C P Q a b=idf a b):∀a,a<n->∀b,b<n->dot C (o.f P) (o.d Q) a b=idf a b:=by
 intro a ha b hb;cases o with
 | add i j k=>
  obtain⟨hi,hj,hij⟩:=ho;have e:dot C (jL P i j k) (jL Q j i (-k)) a b=dot C P Q a b+(if a=i then k*dot C P Q j b else 0)+(if b=j then(-k)*dot C P Q a i+(if a=i then(-k)*(k*dot C P Q j i)else 0)else 0):=by
   unfold dot jL;by_cases e1:a=i
   ·subst e1
    by_cases e2:b=j
    ·subst e2
     simp only[if_true];rw[<-zY,<-zY,<-zY,<-zY,<-jF,<-jF,<-jF];refine zD fun t ht=>?_
     generalize P a t=p;generalize P b t=q;generalize Q a t=r;generalize Q b t=s;grind
    ·simp only[if_true,if_neg e2]
     rw[<-zY,<-jF,Int.add_zero];refine zD fun t ht=>?_
     rw[Int.add_mul,Int.mul_assoc]
   ·by_cases e2:b=j
    ·subst e2
     simp only[if_true,if_neg e1];rw[<-zY,Int.add_zero,Int.add_zero,<-jF];refine zD fun t ht=>?_
     rw[Int.mul_add,Int.mul_left_comm]
    ·simp only[if_neg e1,if_neg e2]
     rw[Int.add_zero,Int.add_zero]
  show dot C (jL P i j k) (jL Q j i (-k)) a b=_;rw[e,h a ha b hb,h j hj b hb,h a ha i hi,h j hj i hi];unfold idf;have hji:¬ j=i:=fun h=>hij h.symm
  by_cases e1:a=i
  ·by_cases e2:b=j
   ·subst e1
    subst e2;simp[hij,hji];omega
   ·have e3:¬ j=b:=fun h=>e2 h.symm
    subst e1;simp[e2,e3]
  ·by_cases e2:b=j
   ·subst e2
    simp[e1]
   ·simp[e1,e2]
 |swap i j=>
  show dot C P Q (swp i j a) (swp i j b)=_;rw[h _ (zFc ho.1 ho.2 ha) _ (zFc ho.1 ho.2 hb)];unfold idf swp;split<;>split<;>(try split)<;>(try split)<;>(try split)<;>(try split)<;>first|rfl|omega
 | neg i=>
  have e:dot C (jQ P i) (jQ Q i) a b=(if a=i then-1 else 1)*((if b=i then-1 else 1)*dot C P Q a b):=by
   unfold dot jQ;rw[<-zY,<-zY];refine zD fun t ht=>?_
   generalize P a t=p;generalize Q b t=q;split<;>split<;>grind
  show dot C (jQ P i) (jQ Q i) a b=_;rw[e,h a ha b hb];unfold idf;split<;>split<;>split<;>omega
theorem zF0{n C:Nat}{l:List Op}(hl:qJ n l):∀{P Q:Nat->Nat->Int},(∀a,a<n->∀b,b<n->dot C P Q a b=idf a b)->∀a,a<n->∀b,b<n->dot C (zA1 l P) (zGF l Q) a b=idf a b:=by
 induction l with
 |nil=>intro P Q h;exact h
 |cons o l ih=>
  intro P Q h;exact ih (fun p hp=>hl p (List.mem_cons_of_mem _ hp)) (zOt (hl o (List.mem_cons_self ..)) h)
def cod(n:Nat)(Q P:Nat->Nat->Int)(a b:Nat):Int:=zI n fun t=>Q t a*P t b
theorem zEu{n i j:Nat}{f g:Nat->Int}{d:Int}(hi:i<n)(hj:j<n)(hij:i≠j)(h:∀t,t<n->t≠i->t≠j->f t=g t)(h1:f i=g i+d)(h2:f j=g j-d):zI n f=zI n g:=by
 have e:zI n (fun t=>f t-g t)=0:=by
  have:∀m,m<=n->zI m (fun t=>f t-g t)=(if i<m then d else 0)-(if j<m then d else 0):=by
   intro m;induction m with
   |zero=>intro _;rfl
   | succ m ih=>
    intro hm;show zI m _+(f m-g m)=_;rw[ih oM];by_cases e1:m=i
    ·subst e1
     rw[h1];split<;>split<;>split<;>(try split)<;>omega
    ·by_cases e2:m=j
     ·subst e2
      rw[h2];split<;>split<;>split<;>(try split)<;>omega
     ·rw[h m oM e1 e2]
      split<;>split<;>split<;>(try split)<;>omega
  rw[this n (xgf _),if_pos hi,if_pos hj];omega
 have e2:zI n f=zI n g+zI n (fun t=>f t-g t):=by
  rw[<-jF];exact zD fun t ht=>by omega
 omega
theorem zOI{n i j:Nat}(hi:i<n)(hj:j<n)(f:Nat->Int):zI n (fun t=>f (swp i j t))=zI n f:=by
 by_cases hij:i=j
 ·subst hij
  refine zD fun t ht=>?_
  unfold swp;split<;>(try split)<;>simp_all
 ·refine zEu (d:=f j-f i) hi hj hij (fun t ht h1 h2=>?_) ?_ ?_
  ·unfold swp;rw[if_neg h1,if_neg h2]
  ·unfold swp;rw[if_pos rfl];omega
  ·unfold swp;rw[if_neg oM,if_pos rfl];omega
theorem zOs{n:Nat}{o:Op}{P Q:Nat->Nat->Int}(ho:o.ok n)(a b:Nat):cod n (o.d Q) (o.f P) a b=cod n Q P a b:=by
 cases o with
 | add i j k=>
  obtain⟨hi,hj,hij⟩:=ho;refine zEu (i:=i) (j:=j) (d:=k*(Q i a*P j b)) hi hj hij (fun t ht h1 h2=>?_) ?_ ?_
  ·simp only[Op.d,Op.f,jL,if_neg h1,if_neg h2]
  ·simp only[Op.d,Op.f,jL,if_true,if_neg hij]
   rw[Int.mul_add,Int.mul_left_comm]
  ·simp only[Op.d,Op.f,jL,if_true,if_neg (fun h=>hij (Eq.symm h))]
   rw[Int.add_mul,Int.mul_assoc,Int.neg_mul];rfl
 |swap i j=>exact zOI ho.1 ho.2 fun t=>Q t a*P t b
 |neg i=>
  refine zD fun t ht=>?_
  simp only[Op.d,Op.f,jQ];split
  ·rw[Int.neg_mul_neg]
  ·rfl
theorem zHf{n:Nat}{l:List Op}(hl:qJ n l):∀{P Q:Nat->Nat->Int} (a b:Nat),cod n (zGF l Q) (zA1 l P) a b=cod n Q P a b:=by
 induction l with
 |nil=>intro P Q a b;rfl
 |cons o l ih=>
  intro P Q a b;show cod n (zGF l (o.d Q)) (zA1 l (o.f P)) a b=_;rw[ih (fun p hp=>hl p (List.mem_cons_of_mem _ hp)),zOs (hl o (List.mem_cons_self ..))]
theorem zC8{n:Nat}{l:List Op}(hl:qJ n l)(F:Nat->Nat->Int):∀a,a<n->∀b,F a b=zI n fun t=>zGF l idf t a*zA1 l F t b:=by
 intro a ha b;have h1:=zHf (P:=F) (Q:=idf) hl a b;unfold cod at h1;rw[h1,qU (c:=a) ha]
 ·unfold idf;rw[if_pos rfl,Int.one_mul]
 ·intro t ht hne
  unfold idf;rw[if_neg hne,Int.zero_mul]
def Bst.mix(x:Bst)(i j:Nat)(a b c d:Int):Bst:=⟨zZ x.s i j a b c d,zZ x.t i j a b c d,zZ x.i i j d (-c) (-b) a⟩
theorem zFF(F:Nat->Nat->Int){i j:Nat}(hij:i≠j)(a b c d q:Int):
  jL (jQ (zFb (zZ F i j (-c) (-d) (a-q*c) (b-q*d)) i j) j) i j q=zZ F i j a b c d:=by
 funext r t
 have hji:j≠i:=Ne.symm hij;have s1:swp i j i=j:=by unfold swp;rw[if_pos rfl]
 have s2:swp i j j=i:=by unfold swp;rw[if_neg hji,if_pos rfl]
 have b1:∀p q' r' s',zZ F i j p q' r' s' i t=p*F i t+q'*F j t:=fun p q' r' s'=>by unfold zZ;rw[if_pos rfl]
 have b2:∀p q' r' s',zZ F i j p q' r' s' j t=r'*F i t+s'*F j t:=fun p q' r' s'=>by unfold zZ;rw[if_neg hji,if_pos rfl]
 have v1:jQ (zFb (zZ F i j (-c) (-d) (a-q*c) (b-q*d)) i j) j i t=(a-q*c)*F i t+(b-q*d)*F j t:=by
  unfold jQ zFb;rw[if_neg hij,s1,b2]
 have v2:jQ (zFb (zZ F i j (-c) (-d) (a-q*c) (b-q*d)) i j) j j t=-((-c)*F i t+(-d)*F j t):=by
  unfold jQ zFb;rw[if_pos rfl,s2,b1]
 by_cases h1:r=i
 ·subst h1
  rw[b1];unfold jL;rw[if_pos rfl,v1,v2];simp only[Int.sub_mul,Int.neg_mul,Int.mul_add,Int.mul_neg,Int.neg_add,Int.neg_neg,<-Int.mul_assoc];omega
 ·unfold jL
  rw[if_neg h1];by_cases h2:r=j
  ·subst h2
   rw[v2,b2];simp only[Int.neg_mul,Int.neg_add,Int.neg_neg]
  ·unfold jQ zFb zZ swp
   rw[if_neg h2,if_neg h1,if_neg h2,if_neg h1,if_neg h2,if_neg h1,if_neg h2]
theorem zHH(F:Nat->Nat->Int){i j:Nat}(hij:i≠j)(a b c d q:Int):
  jL (jQ (zFb (zZ F i j (b-q*d) (-(a-q*c)) d (-c)) i j) j) j i (-q)=zZ F i j d (-c) (-b) a:=by
 funext r t
 have hji:j≠i:=Ne.symm hij;have s1:swp i j i=j:=by unfold swp;rw[if_pos rfl]
 have s2:swp i j j=i:=by unfold swp;rw[if_neg hji,if_pos rfl]
 have b1:∀p q' r' s',zZ F i j p q' r' s' i t=p*F i t+q'*F j t:=fun p q' r' s'=>by unfold zZ;rw[if_pos rfl]
 have b2:∀p q' r' s',zZ F i j p q' r' s' j t=r'*F i t+s'*F j t:=fun p q' r' s'=>by unfold zZ;rw[if_neg hji,if_pos rfl]
 have v1:jQ (zFb (zZ F i j (b-q*d) (-(a-q*c)) d (-c)) i j) j i t=d*F i t+(-c)*F j t:=by
  unfold jQ zFb;rw[if_neg hij,s1,b2]
 have v2:jQ (zFb (zZ F i j (b-q*d) (-(a-q*c)) d (-c)) i j) j j t=-((b-q*d)*F i t+(-(a-q*c))*F j t):=by
  unfold jQ zFb;rw[if_pos rfl,s2,b1]
 by_cases h1:r=j
 ·subst h1
  rw[b2];unfold jL;rw[if_pos rfl,v1,v2];simp only[Int.sub_mul,Int.neg_mul,Int.mul_add,Int.mul_neg,Int.neg_add,Int.neg_neg,Int.neg_sub,<-Int.mul_assoc];omega
 ·unfold jL
  rw[if_neg h1];by_cases h2:r=i
  ·subst h2
   rw[v1,b1]
  ·unfold jQ zFb zZ swp
   rw[if_neg h1,if_neg h2,if_neg h1,if_neg h2,if_neg h1,if_neg h2,if_neg h1]
theorem zIA(F:Nat->Nat->Int){i j:Nat}(hij:i≠j)(b:Int):jL F i j b=zZ F i j 1 b 0 1:=by
 funext r t
 unfold jL zZ;by_cases h1:r=i
 ·rw[if_pos h1,if_pos h1,Int.one_mul]
 ·rw[if_neg h1,if_neg h1]
  by_cases h2:r=j
  ·rw[if_pos h2,h2];omega
  ·rw[if_neg h2]
theorem zJy(F:Nat->Nat->Int){i j:Nat}(hij:i≠j)(b:Int):jL F j i (-b)=zZ F i j 1 (-0) (-b) 1:=by
 funext r t
 unfold jL zZ;by_cases h1:r=j
 ·subst h1
  rw[if_pos rfl,if_neg (Ne.symm hij),if_pos rfl];omega
 ·rw[if_neg h1]
  by_cases h2:r=i
  ·rw[if_pos h2,h2];omega
  ·rw[if_neg h2,if_neg h1]
theorem zGS(F:Nat->Nat->Int){i j:Nat}(hij:i≠j)(b:Int):jL (jQ (jQ F i) j) i j (-b)=zZ F i j (-1) b 0 (-1):=by
 funext r t
 have hji:=Ne.symm hij;unfold jL jQ zZ;by_cases h1:r=i
 ·subst h1
  rw[if_pos rfl,if_neg hij,if_pos rfl,if_pos rfl,if_neg hji,if_pos rfl,Int.neg_mul,Int.mul_neg,Int.neg_neg,Int.neg_mul,Int.one_mul]
 ·rw[if_neg h1,if_neg h1]
  by_cases h2:r=j
  ·subst h2
   rw[if_pos rfl,if_neg hji,if_pos rfl];omega
  ·rw[if_neg h2,if_neg h1,if_neg h2]
theorem zIt(F:Nat->Nat->Int){i j:Nat}(hij:i≠j)(b:Int):jL (jQ (jQ F i) j) j i (-(-b))=zZ F i j (-1) (-0) (-b) (-1):=by
 funext r t
 have hji:=Ne.symm hij;unfold jL jQ zZ;by_cases h1:r=j
 ·subst h1
  rw[if_pos rfl,if_pos rfl,if_neg hji,if_neg hij,if_pos rfl,if_neg hji,if_pos rfl,Int.neg_neg,Int.mul_neg,Int.neg_mul,Int.neg_mul,Int.one_mul];omega
 ·rw[if_neg h1,if_neg h1]
  by_cases h2:r=i
  ·subst h2
   rw[if_pos rfl,if_pos rfl];omega
  ·rw[if_neg h2,if_neg h2,if_neg h1]
theorem zN0{n i j:Nat}(hi:i<n)(hj:j<n)(hij:i≠j):∀(m:Nat) (a b c d:Int),c.natAbs=m->a*d-b*c=1->∃l,qJ n l/\∀x:Bst,x.mix i j a b c d=zA0 l x:=by
 intro m;induction m using Nat.strongRecOn with
 | ind m ih=>
  intro a b c d hm hdet;by_cases hc:c=0
  ·subst hc
   have had:a*d=1:=by rw[Int.mul_zero]at hdet;omega
   have ha1:a.natAbs=1:=by
    have h1:=congrArg Int.natAbs had;rw[Int.natAbs_mul]at h1;exact Nat.eq_one_of_mul_eq_one_right h1
   have hsg:(a=1/\d=1)∨(a=-1/\d=-1):=by
    rcases(by omega:a=1∨a=-1)with e|e
    ·subst e;exact .inl ⟨rfl,by omega⟩
    ·subst e;exact .inr ⟨rfl,by omega⟩
   rcases hsg with⟨rfl,rfl⟩|⟨rfl,rfl⟩
   ·refine⟨[.add i j b],qJ.cons ⟨hi,hj,hij⟩ qJ.nil,fun x=>?_⟩
    show(⟨_,_,_⟩:Bst)=⟨jL x.s i j b,jL x.t i j b,jL x.i j i (-b)⟩;rw[zIA x.s hij,zIA x.t hij,zJy x.i hij]
   ·refine⟨[.neg i,.neg j,.add i j (-b)],qJ.cons hi (qJ.cons hj (qJ.cons ⟨hi,hj,hij⟩ qJ.nil)),fun x=>?_⟩
    show(⟨_,_,_⟩:Bst)=⟨jL (jQ (jQ x.s i) j) i j (-b),jL (jQ (jQ x.t i) j) i j (-b),jL (jQ (jQ x.i i) j) j i (-(-b))⟩;rw[zGS x.s hij,zGS x.t hij,zIt x.i hij]
  ·have h1:a-a/c*c=a%c:=by have:=Int.emod_add_mul_ediv a c;rw[Int.mul_comm]at this;omega
   have h2:=Int.emod_nonneg a hc;have h3:=Int.emod_lt a hc;obtain⟨q,hq⟩:∃q,a/c=q:=⟨_,rfl⟩;rw[hq]at h1;have hd:-c*(b-q*d)- -d*(a-q*c)=1:=by
    have e1:-c*(b-q*d)=-(b*c)+q*c*d:=by rw[Int.mul_sub,Int.neg_mul,Int.neg_mul,Int.mul_comm c b,<-Int.mul_assoc,Int.mul_comm c q];omega
    have e2:-d*(a-q*c)=-(a*d)+q*c*d:=by rw[Int.mul_sub,Int.neg_mul,Int.neg_mul,Int.mul_comm d a,Int.mul_comm d (q*c)];omega
    rw[e1,e2];omega
   obtain⟨l,hl,e⟩:=ih (a-q*c).natAbs oM (-c) (-d) (a-q*c) (b-q*d) rfl hd;refine⟨l++ [.swap i j,.neg j,.add i j q],hl.app (qJ.cons (o:=.swap i j) ⟨hi,hj⟩ (qJ.cons (o:=.neg j) hj (qJ.cons (o:=.add i j q) ⟨hi,hj,hij⟩ qJ.nil))),fun x=>?_⟩;rw[zD9,<-e x];show(⟨_,_,_⟩:Bst)=⟨jL (jQ (zFb (zZ x.s i j (-c) (-d) (a-q*c) (b-q*d)) i j) j) i j q,jL (jQ (zFb (zZ x.t i j (-c) (-d) (a-q*c) (b-q*d)) i j) j) i j q,jL (jQ (zFb (zZ x.i i j (b-q*d) (-(a-q*c)) (-(-d)) (-c)) i j) j) j i (-q)⟩;rw[zFF x.s hij,zFF x.t hij,Int.neg_neg,zHH x.i hij]
def zAj(e:Bool)(Z:Nat->Prop)(w:World)(bw:Nat)(Ah:Value)(n Cs Ct:Nat)(x:Bst):Prop:=
 if e=true then ∃Au Av bss bst bsi,Blk w bw tHW #[Ah,Au,Av]/\zDu w Ah Au Av n Cs Ct bss bst bsi x.s x.t x.i/\∀b,b∈bss∨b∈bst∨b∈bsi->Z b
 else Ct=0/\∃Au Av bss,Blk w bw tHW #[Ah,Au,Av]/\Wri w Ah n Cs bss x.s/\zBa w Au n/\zBa w Av n/\∀b,b∈bss->Z b
theorem zDu.below{w w':World}{As At Ai:Value}{n Cs Ct:Nat}{bss bst bsi:List Nat}{S T I:Nat->Nat->Int}(h:zDu w As At Ai n Cs Ct bss bst bsi S T I)(hb:Below w.heap.size w w'):zDu w' As At Ai n Cs Ct bss bst bsi S T I:=
 ⟨h.s.below hb,h.t.below hb,h.i.below hb,h.st,h.si,h.ti,h.ast,h.asi,h.ati⟩
section
variable {e:Bool} {Z:Nat->Prop} {w w':World} {bw:Nat} {Ah:Value} {n Cs Ct:Nat} {x:Bst}
theorem zAj.below(h:zAj e Z w bw Ah n Cs Ct x)(hb:Below w.heap.size w w'):zAj e Z w' bw Ah n Cs Ct x:=by
 unfold zAj at h ⊢
 split at h
 ·rename_i he
  rw[if_pos he];obtain⟨Au,Av,b1,b2,b3,h1,h2,h3⟩:=h;exact⟨Au,Av,b1,b2,b3,h1.below hb,h2.below hb,h3⟩
 ·rename_i he
  rw[if_neg he];obtain⟨h0,Au,Av,b1,h1,h2,h3,h4,h5⟩:=h;exact⟨h0,Au,Av,b1,h1.below hb,h2.below hb,h3.below hb,h4.below hb,h5⟩
theorem zAj.wri(h:zAj e Z w bw Ah n Cs Ct x):∃bss,Wri w Ah n Cs bss x.s/\∀b,b∈bss->Z b:=by
 unfold zAj at h;split at h
 ·obtain⟨Au,Av,b1,b2,b3,h1,h2,h3⟩:=h
  exact⟨b1,h2.s,fun b hb=>h3 b (.inl hb)⟩
 ·obtain⟨h0,Au,Av,b1,h1,h2,h3,h4,h5⟩:=h
  exact⟨b1,h2,h5⟩
theorem zAj.blk(h:zAj e Z w bw Ah n Cs Ct x):∃Au Av,Blk w bw tHW #[Ah,Au,Av]:=by
 unfold zAj at h;split at h
 ·obtain⟨Au,Av,b1,b2,b3,h1,-⟩:=h
  exact⟨Au,Av,h1⟩
 ·obtain⟨h0,Au,Av,b1,h1,-⟩:=h
  exact⟨Au,Av,h1⟩
theorem zM.widen{Z Z':Nat->Prop}(h:zM Z w w')(hz:∀k,Z k->Z' k):zM Z' w w':=h.mono fun k _ hk=>hz k hk
theorem zP8{B:Nat}(hB:BSm B){i j:Nat}{kv:Value}{k:Int}(h:zAj e Z w bw Ah n Cs Ct x)(hok:okB B n Cs Ct x)(hi:i<n)(hj:j<n)(hij:i≠j)(hk:zR w kv k)
  (hn:n<=1000000) (hCs:Cs<=1000000) (hCt:Ct<=1000000) (ha:zBx B n Cs Ct x i j k):
  Calls Tryz.prog 125 #[.pointer (some ⟨bw,0,none⟩),.int .i64 i,.int .i64 j,kv] w fun r w'=>(∃u,r= .returned u)/\zM Z w w'/\zAj e Z w' bw Ah n Cs Ct (x.add i j k):=by
 obtain⟨a1,a2,a3,a4⟩:=ha;obtain⟨o1,o2,o3⟩:=hok;have hS:zJq Cs x.s i j k:=fun t ht=>⟨hB.sm _ (o1 i hi t ht),hB.sm _ (o1 j hj t ht),hB.sm _ (a2 t ht)⟩
 unfold zAj at h ⊢
 split at h
 ·rename_i he
  obtain⟨Au,Av,b1,b2,b3,h1,h2,h3⟩:=h;refine(zMl bw Ah Au Av n Cs Ct i j b1 b2 b3 x.s x.t x.i kv k w h1 h2 hi hj hij hk hn hCs hCt hS (fun t ht=>⟨hB.sm _ (o2 i hi t ht),hB.sm _ (o2 j hj t ht),hB.sm _ (a3 t ht).1⟩)
   (fun t ht=>⟨hB.sm _ (o3 j hj t ht),hB.sm _ (o3 i hi t ht),hB.sm _ (by rw[Int.neg_mul,Int.natAbs_neg];exact(a3 t ht).2)⟩) (hB.sm _ a1)).mono ?_
  rintro r w' ⟨hu,k1,k2,k3⟩;rw[if_pos he];exact⟨hu,k1.widen h3,Au,Av,b1,b2,b3,k2,k3,h3⟩
 ·rename_i he
  obtain⟨h0,Au,Av,b1,h1,h2,h3,h4,h5⟩:=h;refine(zLf bw Ah Au Av n Cs i j b1 x.s kv k w h1 h2 h3 h4 hi hj hij hk hn hCs hS (hB.sm _ a1)).mono ?_;rintro r w' ⟨hu,k1,k2,k3,k4,k5⟩;rw[if_neg he];exact⟨hu,k1.widen h5,h0,Au,Av,b1,k2,k3,k4,k5,h5⟩
theorem zQF{B:Nat}(hB:BSm B){i:Nat}(h:zAj e Z w bw Ah n Cs Ct x)(hok:okB B n Cs Ct x)(hi:i<n)(hn:n<=1000000)(hCs:Cs<=1000000)(hCt:Ct<=1000000):
  Calls Tryz.prog 127 #[.pointer (some ⟨bw,0,none⟩),.int .i64 i] w fun r w'=>(∃u,r= .returned u)/\zM Z w w'/\zAj e Z w' bw Ah n Cs Ct (x.neg i):=by
 obtain⟨o1,o2,o3⟩:=hok;unfold zAj at h ⊢
 split at h
 ·rename_i he
  obtain⟨Au,Av,b1,b2,b3,h1,h2,h3⟩:=h;refine(zMn bw Ah Au Av n Cs Ct i b1 b2 b3 x.s x.t x.i w h1 h2 hi hn hCs hCt (fun a ha b hb=>hB.sm _ (o1 a ha b hb)) (fun a ha b hb=>hB.sm _ (o2 a ha b hb)) (fun a ha b hb=>hB.sm _ (o3 a ha b hb))).mono ?_;rintro r w' ⟨hu,k1,k2,k3⟩;rw[if_pos he];exact⟨hu,k1.widen h3,Au,Av,b1,b2,b3,k2,k3,h3⟩
 ·rename_i he
  obtain⟨h0,Au,Av,b1,h1,h2,h3,h4,h5⟩:=h;refine(zLh bw Ah Au Av n Cs i b1 x.s w h1 h2 h3 h4 hi hn hCs (fun a ha b hb=>hB.sm _ (o1 a ha b hb))).mono ?_;rintro r w' ⟨hu,k1,k2,k3,k4,k5⟩;rw[if_neg he];exact⟨hu,k1.widen h5,h0,Au,Av,b1,k2,k3,k4,k5,h5⟩
structure zKk(B n Cs Ct:Nat)(x:Bst)(i j:Nat)(a b c d:Int):Prop where
 kk:a.natAbs<B/\b.natAbs<B/\c.natAbs<B/\d.natAbs<B
 ss:∀t,t<Cs->(a*x.s i t).natAbs<B/\(b*x.s j t).natAbs<B/\(c*x.s i t).natAbs<B/\(d*x.s j t).natAbs<B
 tt:∀t,t<Ct->(a*x.t i t).natAbs<B/\(b*x.t j t).natAbs<B/\(c*x.t i t).natAbs<B/\(d*x.t j t).natAbs<B
 ii:∀t,t<Ct->(d*x.i i t).natAbs<B/\(c*x.i j t).natAbs<B/\(b*x.i i t).natAbs<B/\(a*x.i j t).natAbs<B
 oo:okB B n Cs Ct (x.mix i j a b c d)
theorem zQa{B:Nat}(hB:BSm B){i j:Nat}{mv:Value}{a b c d:Int}(h:zAj e Z w bw Ah n Cs Ct x)(hok:okB B n Cs Ct x)(hi:i<n)(hj:j<n)(hij:i≠j)(hm:M4V w mv a b c d)
  (hn:n<=1000000) (hCs:Cs<=1000000) (hCt:Ct<=1000000) (ha:zKk B n Cs Ct x i j a b c d):
  Calls Tryz.prog 126 #[.pointer (some ⟨bw,0,none⟩),.int .i64 i,.int .i64 j,mv] w fun r w'=>(∃u,r= .returned u)/\zM Z w w'/\zAj e Z w' bw Ah n Cs Ct (x.mix i j a b c d):=by
 obtain⟨⟨a1,a2,a3,a4⟩,a_s,at_,ai,ao⟩:=ha;obtain⟨o1,o2,o3⟩:=hok;have hK:Sm a/\Sm b/\Sm c/\Sm d:=⟨hB.sm _ a1,hB.sm _ a2,hB.sm _ a3,hB.sm _ a4⟩;have hS:zMr Cs (x.s i) (x.s j) a b c d:=fun t ht=>by
  obtain⟨q1,q2,q3,q4⟩:=a_s t ht;exact⟨hB.sm _ (o1 i hi t ht),hB.sm _ (o1 j hj t ht),hB.sm _ q1,hB.sm _ q2,hB.sm _ q3,hB.sm _ q4⟩
 unfold zAj at h ⊢
 split at h
 ·rename_i he
  obtain⟨Au,Av,b1,b2,b3,h1,h2,h3⟩:=h;refine(zMm bw Ah Au Av mv n Cs Ct i j b1 b2 b3 x.s x.t x.i a b c d w h1 h2 hi hj hij hm hn hCs hCt hS (fun t ht=>by
   obtain⟨q1,q2,q3,q4⟩:=at_ t ht;exact⟨hB.sm _ (o2 i hi t ht),hB.sm _ (o2 j hj t ht),hB.sm _ q1,hB.sm _ q2,hB.sm _ q3,hB.sm _ q4⟩) (fun t ht=>by
   obtain⟨q1,q2,q3,q4⟩:=ai t ht;exact⟨hB.sm _ (o3 i hi t ht),hB.sm _ (o3 j hj t ht),hB.sm _ q1,hB.sm _ (by rw[Int.neg_mul,Int.natAbs_neg];exact q2),hB.sm _ (by rw[Int.neg_mul,Int.natAbs_neg];exact q3),hB.sm _ q4⟩) hK).mono ?_
  rintro r w' ⟨hu,k1,k2,k3⟩;rw[if_pos he];exact⟨hu,k1.widen h3,Au,Av,b1,b2,b3,k2,k3,h3⟩
 ·rename_i he
  obtain⟨h0,Au,Av,b1,h1,h2,h3,h4,h5⟩:=h;refine(zLg bw Ah Au Av mv n Cs i j b1 x.s a b c d w h1 h2 h3 h4 hi hj hij hm hn hCs hS hK).mono ?_;rintro r w' ⟨hu,k1,k2,k3,k4,k5⟩;rw[if_neg he];exact⟨hu,k1.widen h5,h0,Au,Av,b1,k2,k3,k4,k5,h5⟩
end
def zAx(bw:Nat):Array Value:=#[.func (.func 125) #[.pointer (some ⟨bw,0,none⟩)] #[],.func (.func 126) #[.pointer (some ⟨bw,0,none⟩)] #[],.func (.func 127) #[.pointer (some ⟨bw,0,none⟩)] #[]]
inductive zIq (x:Bst) (r m c:Nat):Bst->Prop
 |add:x.s m c%x.s r c=0->zIq x r m c (x.add m r (-(x.s m c/x.s r c)))
 |mix (s t:Int):¬ x.s m c%x.s r c=0->Bez (x.s r c) (x.s m c) s t->zIq x r m c (x.mix r m s t (-(x.s m c/((Int.gcd (x.s r c) (x.s m c):Nat):Int))) (x.s r c/((Int.gcd (x.s r c) (x.s m c):Nat):Int)))
end Go.Proofs.YtgnmdddaiefooaaGreat
