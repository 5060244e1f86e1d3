/- Joined. -/
import Derived.Test.YtkidaebmhlijlaaGreatE11
set_option linter.unusedVariables false
set_option linter.unusedSimpArgs false
set_option linter.unusedSectionVars false
set_option maxHeartbeats 16000000
set_option maxRecDepth 100000
variable{B C Cs Ct Cu Cw M M' R T a h i j k k' m n p q r r1 r2 rank:Nat}{L:Nat->Int}{c c1 c2:Nat->Nat}{A F G H P Q X:Nat->Nat->Int}
namespace Go.Proofs.YtkidaebmhlijlaaGreat
open Go.RowKit
inductive Op where
 |add (i j:Nat) (k:Int)
 |swap (i j:Nat)
 |neg (i:Nat)
def Op.f:Op->(Nat->Nat->Int)->(Nat->Nat->Int)
 | .add i j k,F=>zB4 F i j k
 | .swap i j,F=>zH7 F i j
 | .neg i,F=>zCq F i
def Op.d:Op->(Nat->Nat->Int)->(Nat->Nat->Int)
 | .add i j k,F=>zB4 F j i (-k)
 | .swap i j,F=>zH7 F i j
 | .neg i,F=>zCq F i
def Op.b(o:Op)(x:Bst):Bst:=⟨o.f x.s,o.f x.t,o.d x.i⟩
def Op.g:Op->Nat
 | .add _ _ k=>1+k.natAbs
 |_=>1
def Op.ok(n:Nat):Op->Prop
 | .add i j _=>i<n/\j<n/\i≠j
 | .swap i j=>i<n/\j<n
 | .neg i=>i<n
def zBF:List Op->(Nat->Nat->Int)->(Nat->Nat->Int)
 | [],F=>F
 |o::l,F=>zBF l (o.f F)
def zNh:List Op->(Nat->Nat->Int)->(Nat->Nat->Int)
 | [],F=>F
 |o::l,F=>zNh l (o.d F)
def zCf:List Op->Bst->Bst
 | [],x=>x
 |o::l,x=>zCf l (o.b x)
def gro:List Op->Nat
 | []=>1
 |o::l=>o.g*gro l
def jZ(n:Nat)(l:List Op):Prop:=∀o∈l,o.ok n
theorem zHL(l:List Op):∀x:Bst,zCf l x=⟨zBF l x.s,zBF l x.t,zNh l x.i⟩:=by
 induction l with
 |nil=>intro x;rfl
 |cons o l a=>intro x;exact a _
theorem zGu(l:List Op)(x:Bst):(zCf l x).s=zBF l x.s:=by rw[zHL]
theorem zFn(l m:List Op):∀F,zBF (l++m) F=zBF m (zBF l F):=by
 induction l with
 |nil=>intro F;rfl
 |cons o l a=>intro F;exact a _
theorem zDv(l m:List Op):∀x,zCf (l++m) x=zCf m (zCf l x):=by
 induction l with
 |nil=>intro F;rfl
 |cons o l a=>intro F;exact a _
theorem zHB(l m:List Op):gro (l++m)=gro l*gro m:=by
 induction l with
 |nil=>simp[gro]
 |cons o l a=>simp[gro,a,Nat.mul_assoc]
theorem jZ.app{l m:List Op}(h:jZ n l)(k:jZ n m):jZ n (l++m):=fun o a=>(List.mem_append.1 a).elim (h o) (k o)
theorem jZ.cons{o:Op}{m:List Op}(h:o.ok n)(k:jZ n m):jZ n (o::m):=fun p hp=>by
 rcases List.mem_cons.1 hp with rfl|hp
 exact h;exact k p hp
theorem jZ.nil:jZ n []:=fun o a=>by cases a
theorem Op.g_pos(o:Op):1<=o.g:=by cases o<;>simp[Op.g]
theorem zIH(l:List Op):1<=gro l:=by
 induction l with
 |nil=>exact xgf _
 |cons o l a=>exact qM o.g_pos a
def leM(M n C:Nat)(F:Nat->Nat->Int):Prop:=∀a,a<n->∀b,b<C->(F a b).natAbs<=M
theorem leM.mono(h:leM M n C F)(c:M<=M'):leM M' n C F:=fun a d b e=>zD (h a d b e) c
theorem leM.ok(h:leM M n C F)(c:M<B):okF B n C F:=fun a d b e=>zI (h a d b e) c
theorem zTk{k:Int}(h:leM M n C F)(f:i<n)(g:j<n):leM (M*(1+k.natAbs)) n C (zB4 F i j k):=by
 intro a e b c;unfold zB4;split
 .have l:=h i f b c
  have d:=h j g b c;have m:(k*F j b).natAbs<=k.natAbs*M:=by rw[qU];exact zG _ d
  have o:(F i b+k*F j b).natAbs<=(F i b).natAbs+(k*F j b).natAbs:=oM;rw[zAH,jS,zN M];omega
 exact zD (h a e b c) (zO _ oM)
theorem zN5(c:i<n)(d:j<n)(b:a<n):swp i j a<n:=by unfold swp;split;exact d;split;exact c;exact b
theorem zTm{o:Op}(h:leM M n C F)(e:o.ok n):leM (M*o.g) n C (o.f F):=by
 cases o with
 |add i j k=>exact zTk h e.1 e.2.1
 |swap i j=>
  intro a c b d;simp only[Op.g,Nat.mul_one];exact h _ (zN5 e.1 e.2 c) b d
 |neg i=>
  intro a c b d;simp only[Op.g,Nat.mul_one,Op.f,zCq];split;rw[zY];exact h a c b d;exact h a c b d
theorem zZp{o:Op}(h:leM M n C F)(a:o.ok n):leM (M*o.g) n C (o.d F):=by
 cases o with
 |add i j k=>
  have:=zTk (k:=-k) h a.2.1 a.1;rwa[zY]at this
 |swap i j=>exact zTm (o:=.swap i j) h a
 |neg i=>exact zTm (o:=.neg i) h a
theorem zDt{l:List Op}(a:jZ n l):∀{M:Nat} {F:Nat->Nat->Int},leM M n C F->leM (M*gro l) n C (zBF l F):=by
 induction l with
 |nil=>intro M F h;simpa[gro,zBF]using h
 |cons o l c=>
  intro M F h;have:=c (fun p b=>a p (qT _ b)) (zTm h (a o (zAa ..)));rwa[zE]at this
theorem zMN{l:List Op}(a:jZ n l):∀{M:Nat} {F:Nat->Nat->Int},leM M n C F->leM (M*gro l) n C (zNh l F):=by
 induction l with
 |nil=>intro M F h;simpa[gro,zNh]using h
 |cons o l c=>
  intro M F h;have:=c (fun p b=>a p (qT _ b)) (zZp h (a o (zAa ..)));rwa[zE]at this
def leB(M n Cs Ct:Nat)(x:Bst):Prop:=leM M n Cs x.s/\leM M n Ct x.t/\leM M n Ct x.i
theorem zO4{o:Op}{x:Bst}(h:leB M n Cs Ct x)(a:o.ok n):leB (M*o.g) n Cs Ct (o.b x):=⟨zTm h.1 a,zTm h.2.1 a,zZp h.2.2 a⟩
theorem zHF{l:List Op}(a:jZ n l){x:Bst}(h:leB M n Cs Ct x):leB (M*gro l) n Cs Ct (zCf l x):=by
 rw[zHL];exact⟨zDt a h.1,zDt a h.2.1,zMN a h.2.2⟩
theorem zGa{k:Int}{x:Bst}(h:leB M n Cs Ct x)(g:i<n)(d:j<n)(m:i≠j)(l:1<=M)(c:M*(1+k.natAbs)<B):zEn B n Cs Ct x i j k:=by
 have e:M*(1+k.natAbs)=M+M*k.natAbs:=by rw[zAH,jS]
 have q:k.natAbs<=M*k.natAbs:=qQ _ l;have f:∀z:Int,z.natAbs<=M->(k*z).natAbs<B:=fun z p=>by
  have:k.natAbs*z.natAbs<=k.natAbs*M:=zG _ p;rw[qU];rw[zN k.natAbs M]at this;omega
 have b:=zO4 (o:=.add i j k) h ⟨g,d,m⟩;exact⟨oM,fun t a=>f _ (h.1 j d t a),fun t a=>⟨f _ (h.2.1 j d t a),f _ (h.2.2 i g t a)⟩,b.1.ok c,b.2.1.ok c,b.2.2.ok c⟩
theorem qAY{b:Nat}{o:Op}(d:o.ok n)(h:∀a,a<n->F a b=qS R fun t=>P a t*G t b):∀a,a<n->o.f F a b=qS R fun t=>o.f P a t*G t b:=by
 intro a c;cases o with
 | add i j k=>
  show(if a=i then F i b+k*F j b else F a b)=qS R fun t=>(if a=i then P i t+k*P j t else P a t)*G t b
  by_cases e:a=i
  .rw[zB e,h i d.1,h j d.2.1,<-jK,<-zBw]
   refine zL fun t f=>?_
   rw[zB e,zBx,qA]
  rw[zA e,h a c];refine zL fun t f=>?_
  rw[zA e]
 |swap i j=>exact h _ (zN5 d.1 d.2 c)
 | neg i=>
  show(if a=i then-(F a b)else F a b)=qS R fun t=>(if a=i then-(P a t)else P a t)*G t b
  by_cases e:a=i
  .rw[zB e,h a c,<-zDm,<-jK]
   refine zL fun t f=>?_
   rw[zB e,yE,yE,zAG]
  rw[zA e,h a c];refine zL fun t f=>?_
  rw[zA e]
theorem zPI{b:Nat}{l:List Op}(c:jZ n l):∀{P F G:Nat->Nat->Int},(∀a,a<n->F a b=qS R fun t=>P a t*G t b)->∀a,a<n->zBF l F a b=qS R fun t=>zBF l P a t*G t b:=by
 induction l with
 |nil=>intro P F G h;exact h
 |cons o l e=>
  intro P F G h;exact e (fun p d=>c p (qT _ d)) (qAY (c o (zAa ..)) h)
theorem zMI(b:a<n)(G:Nat->Int):G a=qS n fun t=>idf a t*G t:=by
 rw[zBA (c:=a) b];unfold idf;rw[zB rfl,zAG];intro i f d;unfold idf;rw[zA (fun e=>d e.symm),yK]
theorem zKG{l:List Op}(d:jZ n l)(F:Nat->Nat->Int):∀a,a<n->∀b,zBF l F a b=qS n fun t=>zBF l idf a t*F t b:=
 fun a c b=>zPI d (fun a c=>zMI c fun t=>F t b) a c
def dot(C:Nat)(P Q:Nat->Nat->Int)(a b:Nat):Int:=qS C fun t=>P a t*Q b t
theorem zZw{o:Op}(f:o.ok n)(h:∀a,a<n->∀b,b<n->dot C P Q a b=idf a b):∀a,a<n->∀b,b<n->dot C (o.f P) (o.d Q) a b=idf a b:=by
 intro a g b l;cases o with
 | add i j k=>
  obtain⟨u,w,v⟩:=f;have e:dot C (zB4 P i j k) (zB4 Q j i (-k)) a b=dot C P Q a b+(if a=i then k*dot C P Q j b else 0)+(if b=j then(-k)*dot C P Q a i+(if a=i then(-k)*(k*dot C P Q j i)else 0)else 0):=by
   unfold dot zB4;by_cases d:a=i
   .subst d
    by_cases c:b=j
    .subst c
     simp only[if_true];rw[<-jK,<-jK,<-jK,<-jK,<-zBw,<-zBw,<-zBw];refine zL fun t m=>?_
     generalize P a t=p;generalize P b t=q;generalize Q a t=r;generalize Q b t=s;grind
    simp only[if_true,if_neg c];rw[<-jK,<-zBw,zAJ];refine zL fun t m=>?_
    rw[zBx,qA]
   by_cases c:b=j
   .subst c
    simp only[if_true,if_neg d];rw[<-jK,zAJ,zAJ,<-zBw];refine zL fun t m=>?_
    rw[zDK,jF]
   simp only[if_neg d,if_neg c];rw[zAJ,zAJ]
  show dot C (zB4 P i j k) (zB4 Q j i (-k)) a b=_;rw[e,h a g b l,h j w b l,h a g i u,h j w i u];unfold idf;have y:¬ j=i:=fun h=>v h.symm
  by_cases d:a=i
  .by_cases c:b=j
   .subst d
    subst c;simp[v,y];omega
   have x:¬ j=b:=fun h=>c h.symm
   subst d;simp[c,x]
  by_cases c:b=j
  .subst c
   simp[d]
  simp[d,c]
 |swap i j=>
  show dot C P Q (swp i j a) (swp i j b)=_;rw[h _ (zN5 f.1 f.2 g) _ (zN5 f.1 f.2 l)];unfold idf swp;split<;>split<;>(try split)<;>(try split)<;>(try split)<;>(try split)<;>first|rfl|omega
 | neg i=>
  have e:dot C (zCq P i) (zCq Q i) a b=(if a=i then-1 else 1)*((if b=i then-1 else 1)*dot C P Q a b):=by
   unfold dot zCq;rw[<-jK,<-jK];refine zL fun t m=>?_
   generalize P a t=p;generalize Q b t=q;split<;>split<;>grind
  show dot C (zCq P i) (zCq Q i) a b=_;rw[e,h a g b l];unfold idf;split<;>split<;>split<;>omega
theorem zIP{l:List Op}(c:jZ n l):∀{P Q:Nat->Nat->Int},(∀a,a<n->∀b,b<n->dot C P Q a b=idf a b)->∀a,a<n->∀b,b<n->dot C (zBF l P) (zNh l Q) a b=idf a b:=by
 induction l with
 |nil=>intro P Q h;exact h
 |cons o l e=>
  intro P Q h;exact e (fun p d=>c p (qT _ d)) (zZw (c o (zAa ..)) h)
def cod(n:Nat)(Q P:Nat->Nat->Int)(a b:Nat):Int:=qS n fun t=>Q t a*P t b
theorem zKZ{f g:Nat->Int}{d:Int}(c:i<n)(k:j<n)(o:i≠j)(h:∀t,t<n->t≠i->t≠j->f t=g t)(h1:f i=g i+d)(h2:f j=g j-d):qS n f=qS n g:=by
 have e:qS n (fun t=>f t-g t)=0:=by
  have:∀m,m<=n->qS m (fun t=>f t-g t)=(if i<m then d else 0)-(if j<m then d else 0):=by
   intro m;induction m with
   |zero=>intro _;rfl
   | succ m l=>
    intro p;show qS m _+(f m-g m)=_;rw[l oM];by_cases b:m=i
    .subst b
     rw[h1];split<;>split<;>split<;>(try split)<;>omega
    by_cases a:m=j
    .subst a
     rw[h2];split<;>split<;>split<;>(try split)<;>omega
    rw[h m oM b a];split<;>split<;>split<;>(try split)<;>omega
  rw[this n (xgf _),zB c,zB k];omega
 have a:qS n f=qS n g+qS n (fun t=>f t-g t):=by
  rw[<-zBw];exact zL fun t q=>oM
 omega
theorem zYu(e:i<n)(g:j<n)(f:Nat->Int):qS n (fun t=>f (swp i j t))=qS n f:=by
 by_cases a:i=j
 .subst a
  refine zL fun t h=>?_
  unfold swp;split<;>(try split)<;>simp_all
 refine zKZ (d:=f j-f i) e g a (fun t h b c=>?_) ?_ ?_;unfold swp;rw[zA b,zA c];unfold swp;rw[zB rfl];omega;unfold swp;rw[zA oM,zB rfl];omega
theorem zZv{o:Op}(e:o.ok n)(a b:Nat):cod n (o.d Q) (o.f P) a b=cod n Q P a b:=by
 cases o with
 | add i j k=>
  obtain⟨l,m,c⟩:=e;refine zKZ (i:=i) (j:=j) (d:=k*(Q i a*P j b)) l m c (fun t p f g=>?_) ?_ ?_;simp only[Op.d,Op.f,zB4,if_neg f,if_neg g]
  .simp only[Op.d,Op.f,zB4,if_true,if_neg c]
   rw[zDK,jF]
  simp only[Op.d,Op.f,zB4,if_true,if_neg (fun h=>c (Eq.symm h))];rw[zBx,qA,yE];rfl
 |swap i j=>exact zYu e.1 e.2 fun t=>Q t a*P t b
 |neg i=>
  refine zL fun t p=>?_
  simp only[Op.d,Op.f,zCq];split;rw[Int.neg_mul_neg];rfl
theorem zPH{l:List Op}(c:jZ n l):∀{P Q:Nat->Nat->Int} (a b:Nat),cod n (zNh l Q) (zBF l P) a b=cod n Q P a b:=by
 induction l with
 |nil=>intro P Q a b;rfl
 |cons o l e=>
  intro P Q a b;show cod n (zNh l (o.d Q)) (zBF l (o.f P)) a b=_;rw[e (fun p d=>c p (qT _ d)),zZv (c o (zAa ..))]
theorem zEZ{l:List Op}(f:jZ n l)(F:Nat->Nat->Int):∀a,a<n->∀b,F a b=qS n fun t=>zNh l idf t a*zBF l F t b:=by
 intro a e b;have d:=zPH (P:=F) (Q:=idf) f a b;unfold cod at d;rw[d,zBA (c:=a) e];unfold idf;rw[zB rfl,zAG];intro t h g;unfold idf;rw[zA g,yK]
def Bst.mix(x:Bst)(i j:Nat)(a b c d:Int):Bst:=⟨jQ x.s i j a b c d,jQ x.t i j a b c d,jQ x.i i j d (-c) (-b) a⟩
theorem zK0(F:Nat->Nat->Int)(n:i≠j)(a b c d q:Int):
  zB4 (zCq (zH7 (jQ F i j (-c) (-d) (a-q*c) (b-q*d)) i j) j) i j q=jQ F i j a b c d:=by
 funext r t
 have o:j≠i:=qF n;have u:swp i j i=j:=by unfold swp;rw[zB rfl]
 have v:swp i j j=i:=by unfold swp;rw[zA o,zB rfl]
 have l:∀p e f g,jQ F i j p e f g i t=p*F i t+e*F j t:=fun p e f g=>by unfold jQ;rw[zB rfl]
 have m:∀p e f g,jQ F i j p e f g j t=f*F i t+g*F j t:=fun p e f g=>by unfold jQ;rw[zA o,zB rfl]
 have w:zCq (zH7 (jQ F i j (-c) (-d) (a-q*c) (b-q*d)) i j) j i t=(a-q*c)*F i t+(b-q*d)*F j t:=by
  unfold zCq zH7;rw[zA n,u,m]
 have s:zCq (zH7 (jQ F i j (-c) (-d) (a-q*c) (b-q*d)) i j) j j t=-((-c)*F i t+(-d)*F j t):=by
  unfold zCq zH7;rw[zB rfl,v,l]
 by_cases h:r=i
 .subst h
  rw[l];unfold zB4;rw[zB rfl,w,s];simp only[Int.sub_mul,Int.neg_mul,Int.mul_add,Int.mul_neg,Int.neg_add,Int.neg_neg,<-Int.mul_assoc];omega
 unfold zB4;rw[zA h];by_cases k:r=j
 .subst k
  rw[s,m];simp only[Int.neg_mul,Int.neg_add,Int.neg_neg]
 unfold zCq zH7 jQ swp;rw[zA k,zA h,zA k,zA h,zA k,zA h,zA k]
theorem zOa(F:Nat->Nat->Int)(n:i≠j)(a b c d q:Int):
  zB4 (zCq (zH7 (jQ F i j (b-q*d) (-(a-q*c)) d (-c)) i j) j) j i (-q)=jQ F i j d (-c) (-b) a:=by
 funext r t
 have o:j≠i:=qF n;have u:swp i j i=j:=by unfold swp;rw[zB rfl]
 have v:swp i j j=i:=by unfold swp;rw[zA o,zB rfl]
 have l:∀p f g h,jQ F i j p f g h i t=p*F i t+f*F j t:=fun p f g h=>by unfold jQ;rw[zB rfl]
 have m:∀p f g h,jQ F i j p f g h j t=g*F i t+h*F j t:=fun p f g h=>by unfold jQ;rw[zA o,zB rfl]
 have s:zCq (zH7 (jQ F i j (b-q*d) (-(a-q*c)) d (-c)) i j) j i t=d*F i t+(-c)*F j t:=by
  unfold zCq zH7;rw[zA n,u,m]
 have w:zCq (zH7 (jQ F i j (b-q*d) (-(a-q*c)) d (-c)) i j) j j t=-((b-q*d)*F i t+(-(a-q*c))*F j t):=by
  unfold zCq zH7;rw[zB rfl,v,l]
 by_cases e:r=j
 .subst e
  rw[m];unfold zB4;rw[zB rfl,s,w];simp only[Int.sub_mul,Int.neg_mul,Int.mul_add,Int.mul_neg,Int.neg_add,Int.neg_neg,Int.neg_sub,<-Int.mul_assoc];omega
 unfold zB4;rw[zA e];by_cases k:r=i
 .subst k
  rw[s,l]
 unfold zCq zH7 jQ swp;rw[zA e,zA k,zA e,zA k,zA e,zA k,zA e]
theorem zPz(F:Nat->Nat->Int)(d:i≠j)(b:Int):zB4 F i j b=jQ F i j 1 b 0 1:=by
 funext r t
 unfold zB4 jQ;by_cases a:r=i
 .rw[zB a,zB a,zAG]
 rw[zA a,zA a];by_cases c:r=j
 .rw[zB c,c];omega
 rw[zA c]
theorem zSt(F:Nat->Nat->Int)(d:i≠j)(b:Int):zB4 F j i (-b)=jQ F i j 1 (-0) (-b) 1:=by
 funext r t
 unfold zB4 jQ;by_cases a:r=j
 .subst a
  rw[zB rfl,zA (qF d),zB rfl];omega
 rw[zA a];by_cases c:r=i
 .rw[zB c,c];omega
 rw[zA c,zA a]
theorem zM7(F:Nat->Nat->Int)(d:i≠j)(b:Int):zB4 (zCq (zCq F i) j) i j (-b)=jQ F i j (-1) b 0 (-1):=by
 funext r t
 have e:=qF d;unfold zB4 zCq jQ;by_cases a:r=i
 .subst a
  rw[zB rfl,zA d,zB rfl,zB rfl,zA e,zB rfl,yE,zEC,zCJ,yE,zAG]
 rw[zA a,zA a];by_cases c:r=j
 .subst c
  rw[zB rfl,zA e,zB rfl];omega
 rw[zA c,zA a,zA c]
theorem zQ0(F:Nat->Nat->Int)(d:i≠j)(b:Int):zB4 (zCq (zCq F i) j) j i (-(-b))=jQ F i j (-1) (-0) (-b) (-1):=by
 funext r t
 have e:=qF d;unfold zB4 zCq jQ;by_cases a:r=j
 .subst a
  rw[zB rfl,zB rfl,zA e,zA d,zB rfl,zA e,zB rfl,zCJ,zEC,yE,yE,zAG];omega
 rw[zA a,zA a];by_cases c:r=i
 .subst c
  rw[zB rfl,zB rfl];omega
 rw[zA c,zA c,zA a]
theorem zYZ(h:i<n)(g:j<n)(f:i≠j):∀(m:Nat) (a b c d:Int),c.natAbs=m->a*d-b*c=1->∃l,jZ n l/\∀x:Bst,x.mix i j a b c d=zCf l x:=by
 intro m;induction m using Nat.strongRecOn with
 | ind m z=>
  intro a b c d D u;by_cases p:c=0
  .subst p
   have t:a*d=1:=by rw[qB]at u;omega
   have C:a.natAbs=1:=by
    have k:=congrArg Int.natAbs t;rw[qU]at k;exact Nat.eq_one_of_mul_eq_one_right k
   have y:(a=1/\d=1)∨(a=-1/\d=-1):=by
    rcases(by omega:a=1∨a=-1)with e|e
    subst e;exact .inl ⟨rfl,oM⟩;subst e;exact .inr ⟨rfl,oM⟩
   rcases y with⟨rfl,rfl⟩|⟨rfl,rfl⟩
   .refine⟨[.add i j b],jZ.cons ⟨h,g,f⟩ jZ.nil,fun x=>?_⟩
    show(⟨_,_,_⟩:Bst)=⟨zB4 x.s i j b,zB4 x.t i j b,zB4 x.i j i (-b)⟩;rw[zPz x.s f,zPz x.t f,zSt x.i f]
   refine⟨[.neg i,.neg j,.add i j (-b)],jZ.cons h (jZ.cons g (jZ.cons ⟨h,g,f⟩ jZ.nil)),fun x=>?_⟩;show(⟨_,_,_⟩:Bst)=⟨zB4 (zCq (zCq x.s i) j) i j (-b),zB4 (zCq (zCq x.t i) j) i j (-b),zB4 (zCq (zCq x.i i) j) j i (-(-b))⟩;rw[zM7 x.s f,zM7 x.t f,zQ0 x.i f]
  have k:a-a/c*c=a%c:=by have:=Int.emod_add_mul_ediv a c;rw[zZ]at this;omega
  have A:=zAk a p;have B:=Int.emod_lt a p;obtain⟨q,w⟩:∃q,a/c=q:=⟨_,rfl⟩;rw[w]at k;have hd:-c*(b-q*d)- -d*(a-q*c)=1:=by
   have r:-c*(b-q*d)=-(b*c)+q*c*d:=by rw[Int.mul_sub,yE,yE,zZ c b,<-qA,zZ c q];omega
   have s:-d*(a-q*c)=-(a*d)+q*c*d:=by rw[Int.mul_sub,yE,yE,zZ d a,zZ d (q*c)];omega
   rw[r,s];omega
  obtain⟨l,v,e⟩:=z (a-q*c).natAbs oM (-c) (-d) (a-q*c) (b-q*d) rfl hd;refine⟨l++ [.swap i j,.neg j,.add i j q],v.app (jZ.cons (o:=.swap i j) ⟨h,g⟩ (jZ.cons (o:=.neg j) g (jZ.cons (o:=.add i j q) ⟨h,g,f⟩ jZ.nil))),fun x=>?_⟩;rw[zDv,<-e x];show(⟨_,_,_⟩:Bst)=⟨zB4 (zCq (zH7 (jQ x.s i j (-c) (-d) (a-q*c) (b-q*d)) i j) j) i j q,zB4 (zCq (zH7 (jQ x.t i j (-c) (-d) (a-q*c) (b-q*d)) i j) j) i j q,zB4 (zCq (zH7 (jQ x.i i j (b-q*d) (-(a-q*c)) (-(-d)) (-c)) i j) j) j i (-q)⟩;rw[zK0 x.s f,zK0 x.t f,zCJ,zOa x.i f]
theorem zO6{c:Nat}(hc:c<C)(h:F i c≠0)(f:∀t,t<c->F i t=0):lead C F i=(c:Int):=by
 rcases zCp C F i with⟨-,a⟩|⟨j,b,a,d,e⟩
 exact absurd (a c hc) h;rcases yS j c with h5|h5|h5
 exact absurd (f j h5) d;rw[b,h5];exact absurd (e c h5) h
theorem zFh(d:∀t,t<C->F i t=0):lead C F i=-1:=by
 rcases zCp C F i with⟨a,-⟩|⟨j,a,b,c,e⟩
 exact a;exact absurd (d j b) c
theorem zHk(h:lead C F i<0):∀t,t<C->F i t=0:=by
 rcases zCp C F i with⟨-,a⟩|⟨j,a,-⟩
 exact a;omega
theorem zRW(h:∀t,t<C->F i t=G j t):lead C F i=lead C G j:=by
 unfold lead;rw[yH h]
theorem zVU(L:Nat->Int)(c:Int):∀m k,k<=adv L c m k/\adv L c m k<=k+m/\(∀i,k<=i->i<adv L c m k->L i<c)/\(adv L c m k<k+m->¬ L (adv L c m k)<c):=by
 intro m;induction m with
 |zero=>intro k;exact⟨xgf _,xgf _,fun i f d=>by unfold adv at d;omega,fun h=>by unfold adv at h;omega⟩
 | succ m l=>
  intro k;unfold adv;by_cases h:L k<c
  .rw[zB h]
   obtain⟨f,d,g,j⟩:=l (k+1);refine⟨oM,oM,fun i a b=>?_,fun n=>j oM⟩;by_cases e:i=k
   .rw[e];exact h
   exact g i oM b
  rw[zA h];exact⟨xgf _,oM,fun i a b=>oM,fun _=>h⟩
theorem zPs{c:Int}(h:0<m->¬ L k<c):adv L c m k=k:=by
 cases m with
 |zero=>rfl
 |succ m=>unfold adv;rw[zA (h oM)]
theorem zSm{c:Int}(b:k<r)(h:L k<c):adv L c (r-k) k=adv L c (r-(k+1)) (k+1):=by
 obtain⟨m,a⟩:∃m,r-k=m+1:=⟨r-k-1,oM⟩;rw[a];have:r-(k+1)=m:=oM;rw[this];show(if L k<c then adv L c m (k+1)else k)=_;rw[zB h]
theorem zKa{B n Ct f c:Nat}{x:Bst}(a:lead Cs x.s m=(c:Int))(h1:adv (lead Cs x.s) (lead Cs x.s m) (rank-k) k=k')(h2:k'<rank)(b:lead Cs x.s k'=(c:Int))
  (e:zEn B n Cs Ct x m k' (-(x.s m c/x.s k' c))):
  zB7 B n Cs Ct m rank (f+1) k x=zB7 B n Cs Ct m rank f k' (if x.s m c%x.s k' c=0 then zCf [.add m k' (-(x.s m c/x.s k' c))] x else zCf [.add m k' (-(x.s m c/x.s k' c)),.swap m k'] x):=by
 have d:(lead Cs x.s m).toNat=c:=by rw[a];rfl
 conv=>lhs;unfold zB7
 rw[h1,d,zA oM,zB ⟨h2,by rw[b,a]⟩,zB e];rfl
theorem zPl:∀{f k:Nat} {x:Bst} {r:Bst × Bool},zB7 B n Cs Ct m rank f k x=some r->zB7 B n Cs Ct m rank (f+1) k x=some r:=by
 intro f;induction f with
 |zero=>intro k x r h;cases h
 | succ f d=>
  intro k x r h;unfold zB7 at h ⊢
  split
  .rename_i a
   rw[zB a]at h;exact h
  rename_i a;rw[zA a]at h;split
  .rename_i b
   rw[zB b]at h;split
   .rename_i c
    rw[zB c]at h;exact d h
   rename_i c;rw[zA c]at h;exact h
  rename_i b;rw[zA b]at h;exact h
theorem zU3{f g:Nat}{x:Bst}{r:Bst × Bool}(h:zB7 B n Cs Ct m rank f k x=some r)(a:f<=g):zB7 B n Cs Ct m rank g k x=some r:=by
 obtain⟨d,rfl⟩:=zAV a;clear a;induction d with
 |zero=>exact h
 |succ d b=>exact zPl b
theorem eu1(a:0<p):1+q<=(1+q)*(2*p*p):=zO _ (by
 have:=qM a a
 rw[zE];omega)
theorem eu2(b:0<p)(e:p<=a)(h:a=p*q+r):1+q<=2*a*p:=by
 have c:q<=p*q:=qQ _ b;have d:2*a<=2*a*p:=zO _ b;omega
theorem eu3(a:r<=p):(1+q)*(2*p*r)<=(1+q)*(2*p*p):=zG _ (zG _ a)
theorem eu4(e:r<=p)(h:a=p*q+r):(1+q)*(2*p*r)<=2*a*p:=by
 have f:q*r<=q*p:=zG _ e;have b:(1+q)*r<=a:=by
  rw[zW,zAR,h,zN p];omega
 have c:(1+q)*(2*p*r)=2*p*((1+q)*r):=by rw[zDE]
 have d:2*a*p=2*p*a:=by rw[zE,zE,zN a]
 rw[c,d];exact zG _ b
theorem zZa{B c:Nat}(Y:k<rank)(b4:rank<=m)(F:m<n)(hc:c<Cs):∀(p:Nat) (x:Bst) (M j:Nat),leB M n Cs Ct x->1<=M->0<p->x.s k c=(p:Int)->x.s m c≠0->
  (∀t,t<c->x.s k t=0)->(∀t,t<c->x.s m t=0)->((1+(x.s m c/(p:Int)).natAbs)*(2*p*p)<=j∨((p:Int)<=x.s m c/\2*(x.s m c).natAbs*p<=j))->M*j<B->
  ∃w l,(∀f,zB7 B n Cs Ct m rank (f+w) k x=zB7 B n Cs Ct m rank f k (zCf l x))/\jZ n l/\gro l<=j/\(∀a,a≠m->a≠k->∀b,zBF l x.s a b=x.s a b)∧
   (∀t,t<c->zBF l x.s k t=0)/\0<zBF l x.s k c/\zBF l x.s k c<=(p:Int)/\(∀t,t<=c->zBF l x.s m t=0):=by
 intro p;induction p using Nat.strongRecOn with
 |ind p ih=>
 intro x M j S T hp i a6 v J C U;have u:m≠k:=oM;have E:lead Cs x.s m=(c:Int):=zO6 hc a6 J;have D:lead Cs x.s k=(c:Int):=zO6 hc oM v;have V:adv (lead Cs x.s) (lead Cs x.s m) (rank-k) k=k:=zPs fun _=>by rw[E,D];omega
 have X:=zAP (x.s m c) p;have b3:=zAk (x.s m c) (b:=(p:Int)) oM;have a9:=zAx (x.s m c) (b:=(p:Int)) oM;obtain⟨q,z⟩:∃q,x.s m c/(p:Int)=q:=⟨_,rfl⟩;obtain⟨r,I⟩:∃r:Nat,x.s m c%(p:Int)=(r:Int):=⟨(x.s m c%(p:Int)).toNat,oM⟩;rw[z,I]at X;rw[I]at a9;rw[z]at C;have W:(p:Int)<=x.s m c->(x.s m c).natAbs=p*q.natAbs+r/\p<=(x.s m c).natAbs:=fun b0=>by
  have b2:0<=q:=by rw[<-z];exact zCC oM oM
  have:((q.natAbs:Nat):Int)=q:=oM;refine⟨?_,oM⟩;have h5:((p*q.natAbs+r:Nat):Int)=x.s m c:=by rw[zAX,yJ,this];exact X
  omega
 have Q:1+q.natAbs<=j:=by
  rcases C with h|⟨d,e⟩
  exact zD (eu1 hp) h;obtain⟨A,P⟩:=W d;exact zD (eu2 hp P A) e
 have R:(1+q.natAbs)*(2*p*r)<=j:=by
  rcases C with h|⟨d,e⟩
  exact zD (eu3 oM) h;obtain⟨A,P⟩:=W d;exact zD (eu4 oM A) e
 have H:x.s m c/x.s k c=q:=by rw[i,z]
 have a4:x.s m c%x.s k c=(r:Int):=by rw[i,I]
 have a2:zEn B n Cs Ct x m k (-(x.s m c/x.s k c)):=by
  rw[H];refine zGa S F oM u T ?_;rw[zY];exact zI (zG _ Q) U
 have G:(Op.add m k (-q)).ok n:=⟨F,oM,u⟩;have a5:(Op.add m k (-q)).g=1+q.natAbs:=by simp[Op.g]
 have a1:∀t,(zB4 x.s m k (-q)) m t=x.s m t+-q*x.s k t:=fun t=>by unfold zB4;rw[zB rfl]
 have a0:x.s m c+-q*x.s k c=(r:Int):=by
  rw[i,yE,zZ q];omega
 by_cases a8:r=0
 .refine⟨1,[.add m k (-q)],fun f=>?_,jZ.cons G jZ.nil,?_,?_,?_,?_,?_,?_⟩
  .rw[zKa E V Y D a2,H,a4,zB oM]
  .show _*1<=_
   rw[jS,a5];exact Q
  .intro a d e b
   show zB4 x.s m k (-q) a b=_;unfold zB4;rw[zA d]
  .intro t o
   show zB4 x.s m k (-q) k t=_;unfold zB4;rw[zA (fun h=>u h.symm)];exact v t o
  .show 0<zB4 x.s m k (-q) k c
   unfold zB4;rw[zA (fun h=>u h.symm),i];omega
  .show zB4 x.s m k (-q) k c<=_
   unfold zB4;rw[zA (fun h=>u h.symm),i];omega
  intro t o;show zB4 x.s m k (-q) m t=_;rw[a1];rcases zK t c with h|h
  rw[v t h,J t h];omega;obtain rfl:t=c:=oM;rw[a0,a8];rfl
 have a3:(Op.swap m k).ok n:=⟨F,oM⟩;have hy:leB (M*(1+q.natAbs)) n Cs Ct (zCf [.add m k (-q),.swap m k] x):=by
  have:=zHF (jZ.cons G (jZ.cons a3 jZ.nil)) S;rwa[show gro [Op.add m k (-q),Op.swap m k]=1+q.natAbs by simp[gro,Op.g]]at this
 have Z:∀t,(zCf [.add m k (-q),.swap m k] x).s k t=x.s m t+-q*x.s k t:=fun t=>by
  show zB4 x.s m k (-q) (swp m k k) t=_;rw[show swp m k k=m by unfold swp;rw[zA oM,zB rfl],a1]
 have y:∀t,(zCf [.add m k (-q),.swap m k] x).s m t=x.s k t:=fun t=>by
  show zB4 x.s m k (-q) (swp m k m) t=_;rw[show swp m k m=k by unfold swp;rw[zB rfl]];unfold zB4;rw[zA oM]
 have a7:∀a,a≠m->a≠k->∀b,(zCf [.add m k (-q),.swap m k] x).s a b=x.s a b:=fun a d e b=>by
  show zB4 x.s m k (-q) (swp m k a) b=_;rw[show swp m k a=a by unfold swp;rw[zA d,zA e]];unfold zB4;rw[zA d]
 obtain⟨w,l,e1,e2,e3,K,L,N,e7,O⟩:=ih r oM (zCf [.add m k (-q),.swap m k] x) (M*(1+q.natAbs)) (2*p*r) hy (qM T oM) oM (by rw[Z,a0]) (by rw[y,i];omega)
  (fun t o=>by rw[Z,v t o,J t o];omega) (fun t o=>by rw[y,v t o]) (.inr ⟨by rw[y,i];omega,by rw[y,i];exact xgf _⟩) (by rw[zE];exact zI (zG _ R) U)
 have es:(zCf [.add m k (-q),.swap m k] x).s=zBF [.add m k (-q),.swap m k] x.s:=zGu _ _;have ef:zBF l (zCf [.add m k (-q),.swap m k] x).s=zBF ([.add m k (-q),.swap m k]++l) x.s:=by rw[zFn,es]
 rw[ef]at K L N e7 O;refine⟨w+1,[.add m k (-q),.swap m k]++l,fun f=>?_,(jZ.cons G (jZ.cons a3 jZ.nil)).app e2,?_,fun a d e b=>?_,L,N,oM,O⟩
 .have:=zKa (f:=f+w) E V Y D a2
  rw[H,a4,zA oM]at this;rw[<-zER,this,e1,zDv]
 .rw[zHB]
  refine zD (zG _ e3) ?_;rw[show gro [Op.add m k (-q),Op.swap m k]=1+q.natAbs by simp[gro,Op.g]];exact R
 rw[K a d e b,a7 a d e b]
structure Ech(C r:Nat)(c:Nat->Nat)(F:Nat->Nat->Int):Prop where
 lt:∀k,k<r->c k<C
 pos:∀k,k<r->0<F k (c k)
 zero:∀k,k<r->∀t,t<c k->F k t=0
 inc:∀k l,k<l->l<r->c k<c l
theorem Ech.lead(h:Ech C r c F)(a:k<r):lead C F k=(c k:Int):=zO6 (h.lt k a) (by have:=h.pos k a;omega) (h.zero k a)
def zEU(k:Nat):Nat->List Op
 |0=>[]
 |m+1=>.swap (k+m+1) (k+m)::zEU k m
def zNy(k m a:Nat):Nat:=if a=k then k+m else if k<a/\a<=k+m then a-1 else a
theorem zWZ(k m:Nat):∀x,zY7 k m x=zCf (zEU k m) x:=by
 induction m with
 |zero=>intro x;rfl
 |succ m a=>intro x;exact a _
theorem zWa(k m:Nat):∀(F:Nat->Nat->Int) (a b:Nat),zBF (zEU k m) F a b=F (zNy k m a) b:=by
 induction m with
 |zero=>
  intro F a b;show F a b=_;congr 1;unfold zNy;split<;>(try split)<;>omega
 |succ m c=>
  intro F a b;show zBF (zEU k m) (zH7 F (k+m+1) (k+m)) a b=_;rw[c];show F (swp (k+m+1) (k+m) (zNy k m a)) b=_;congr 1;unfold zNy swp;split<;>split<;>(try split)<;>(try split)<;>(try split)<;>(try split)<;>omega
theorem zUb(h:k+m<n):jZ n (zEU k m):=by
 induction m with
 |zero=>exact jZ.nil
 |succ m a=>exact jZ.cons ⟨oM,oM⟩ (a oM)
theorem zR6(k m:Nat):gro (zEU k m)=1:=by
 induction m with
 |zero=>rfl
 |succ m a=>simp[zEU,gro,Op.g,a]
theorem zKb{f:Nat}{x:Bst}(a:k<rank)(h:lead Cs x.s m<0∨lead Cs x.s k<lead Cs x.s m):zB7 B n Cs Ct m rank f k x=zB7 B n Cs Ct m rank f (k+1) x:=by
 cases f with
 |zero=>rfl
 |succ f=>
  unfold zB7;rcases h with h|h
  rw[zB h,zB h];rw[zSm a h]
theorem zDH{Z b:Nat}(c:1<=Z)(h:a<=b):Z^a<=Z^b:=zX c h
theorem zRG(d:1<=T):2*T*((1+T)*(2*T*T))<=(2*T)^4:=by
 have a:(1+T)*(2*T*T)<=(2*T)*(2*T*T):=zP _ oM;have b:(2*T)*((2*T)*(2*T*T))<=(2*T)*((2*T)*(2*T*(2*T))):=zG _ (zG _ (zG _ oM));have c:(2*T)^4=(2*T)*((2*T)*(2*T*(2*T))):=by
  simp[Nat.pow_succ,Nat.mul_assoc]
 rw[c];exact zD (zG _ a) b
def zXu(Cs m rank:Nat)(F G:Nat->Nat->Int)(b:Bool)(c':Nat->Nat):Prop:=
 Ech Cs (if b then rank+1 else rank) c' G/\(∀a,(if b then rank+1 else rank)<=a->a<=m->∀t,t<Cs->G a t=0)/\∀a,m<a->∀t,G a t=F a t
theorem zQn{B n Ct k:Nat}{x:Bst}(b:lead Cs x.s m<0)(f:Ech Cs rank c x.s)(g:∀a,rank<=a->a<m->∀t,t<Cs->x.s a t=0):
  zB7 B n Cs Ct m rank 1 k x=some (zCf [] x,false)/\zXu Cs m rank x.s (zBF [] x.s) false c:=by
 refine⟨?_,f,fun a e i t d=>?_,fun a h t=>rfl⟩
 .unfold zB7
  rw[zB b];rfl
 rcases zK a m with h3|h3
 exact g a e h3 t d;obtain rfl:a=m:=oM;exact zHk b t d
theorem zQo{B Ct k k' f:Nat}{x:Bst}{c:Nat->Nat}(Z:rank<=m)(F:m<n)(D:lead Cs x.s m=(f:Int))(Q:f<Cs)(W:x.s m f≠0)(L:∀t,t<f->x.s m t=0)
  (j:Ech Cs rank c x.s) (H:∀a,rank<=a->a<m->∀t,t<Cs->x.s a t=0) (N:adv (lead Cs x.s) (lead Cs x.s m) (rank-k) k=k') (Y:k'<=rank) (E:∀i,i<k'->c i<f) (y:k'<rank->f<c k'):
  ∃l,zB7 B n Cs Ct m rank 1 k x=some (zCf l x,true)/\jZ n l/\gro l=1/\zXu Cs m rank x.s (zBF l x.s) true (fun a=>if a<k' then c a else if a=k' then f else c (a-1)):=by
 have R:(lead Cs x.s m).toNat=f:=by rw[D];rfl
 have I:zB7 B n Cs Ct m rank 1 k x=some (zY7 k' (rank-k') ((if x.s m f<0 then x.neg m else x).swap m rank),true):=by
  unfold zB7;rw[N,R,zA oM,zA];rintro⟨h1,o⟩;rw[j.lead h1,D]at o;have:=y h1;omega
 obtain⟨d,q⟩:∃d:List Op,d=if x.s m f<0 then [.neg m]else []:=⟨_,rfl⟩
 have J:(if x.s m f<0 then x.neg m else x)=zCf d x:=by
  rw[q];split<;>rfl
 have U:jZ n d:=by
  rw[q];split;exact jZ.cons F jZ.nil;exact jZ.nil
 have T:gro d=1:=by rw[q];split<;>rfl
 obtain⟨g,X,w⟩:∃g:Int,(g=1∨g=-1)/\(∀a t,zBF d x.s a t=if a=m then g*x.s m t else x.s a t)/\0<g*x.s m f:=by
  rw[q];by_cases h:x.s m f<0
  .rw[zB h]
   refine⟨-1,.inr rfl,fun a t=>?_,oM⟩;show zCq x.s m a t=_;unfold zCq;by_cases e:a=m
   .rw[zB e,zB e,e];omega
   rw[zA e,zA e]
  rw[zA h];refine⟨1,.inl rfl,fun a t=>?_,oM⟩;show x.s a t=_;by_cases e:a=m
  .rw[zB e,e];omega
  rw[zA e]
 obtain⟨w,S⟩:=w;refine⟨d++(.swap m rank::zEU k' (rank-k')),?_,U.app (jZ.cons ⟨F,oM⟩ (zUb oM)),by simp[zHB,gro,T,zR6,Op.g],?_⟩
 .rw[I,J,zWZ,zDv]
  rfl
 have hF:∀a t,zBF (d++(.swap m rank::zEU k' (rank-k'))) x.s a t=if swp m rank (zNy k' (rank-k') a)=m then g*x.s m t else x.s (swp m rank (zNy k' (rank-k') a)) t:=by
  intro a t;rw[zFn];show zBF (zEU k' (rank-k')) (zH7 (zBF d x.s) m rank) a t=_;rw[zWa];show zBF d x.s (swp m rank (zNy k' (rank-k') a)) t=_;exact w _ _
 have r:∀a,a<k'->∀t,zBF (d++(.swap m rank::zEU k' (rank-k'))) x.s a t=x.s a t:=fun a h t=>by
  have e:swp m rank (zNy k' (rank-k') a)=a:=by unfold swp zNy;split<;>split<;>(try split)<;>(try split)<;>(try split)<;>omega
  rw[hF,e,zA oM]
 have s:∀t,zBF (d++(.swap m rank::zEU k' (rank-k'))) x.s k' t=g*x.s m t:=fun t=>by
  have e:swp m rank (zNy k' (rank-k') k')=m:=by unfold swp zNy;split<;>(try split)<;>(try split)<;>omega
  rw[hF,e,zB rfl]
 have u:∀a,k'<a->a<=rank->∀t,zBF (d++(.swap m rank::zEU k' (rank-k'))) x.s a t=x.s (a-1) t:=fun a h K t=>by
  have e:swp m rank (zNy k' (rank-k') a)=a-1:=by unfold swp zNy;split<;>split<;>(try split)<;>(try split)<;>(try split)<;>omega
  rw[hF,e,zA oM]
 have v:∀a,rank<a->a≠m->∀t,zBF (d++(.swap m rank::zEU k' (rank-k'))) x.s a t=x.s a t:=fun a h K t=>by
  have e:swp m rank (zNy k' (rank-k') a)=a:=by unfold swp zNy;split<;>split<;>(try split)<;>(try split)<;>(try split)<;>omega
  rw[hF,e,zA oM]
 have z:rank<m->∀t,zBF (d++(.swap m rank::zEU k' (rank-k'))) x.s m t=x.s rank t:=fun h t=>by
  have e:swp m rank (zNy k' (rank-k') m)=rank:=by unfold swp zNy;split<;>split<;>(try split)<;>(try split)<;>(try split)<;>omega
  rw[hF,e,zA oM]
 generalize zBF (d++(.swap m rank::zEU k' (rank-k'))) x.s=G at r s u v z;refine⟨⟨fun a h=>?_,fun a h=>?_,fun a h t p=>?_,fun a b O C=>?_⟩,fun a h1 o t p=>?_,fun a h t=>v a oM oM t⟩
 .simp only[if_true]at h
  split;exact j.lt a oM;split;exact Q;exact j.lt (a-1) oM
 .simp only[if_true]at h
  rcases yS a k' with h1|h1|h1
  rw[zB h1,r a h1];exact j.pos a oM;rw[zA oM,zB h1,h1,s];exact S;rw[zA oM,zA oM,u a h1 oM];exact j.pos (a-1) oM
 .simp only[if_true]at h
  rcases yS a k' with h1|h1|h1
  .rw[zB h1]at p
   rw[r a h1];exact j.zero a oM t p
  .rw[zA oM,zB h1]at p
   rw[h1,s,L t p,qB]
  rw[zA oM,zA oM]at p;rw[u a h1 oM];exact j.zero (a-1) oM t p
 .simp only[if_true]at C
  have V:∀b,k'<b->b<rank+1->f<c (b-1):=fun b h1 o=>by
   rcases zK k' (b-1)with A|A
   .have:=j.inc k' (b-1) A oM
    have:=y oM;omega
   obtain M:b-1=k':=oM;rw[M];exact y oM
  rcases yS b k' with h1|h1|h1
  rw[zB oM,zB h1];exact j.inc a b O oM;rw[zB oM,zA oM,zB h1];exact E a oM;rw[zA (show ¬ b<k' by omega),zA (show ¬ b=k' by omega)];have P:=V b h1 C;rcases yS a k' with o|o|o
  .rw[zB o]
   have:=E a o;omega
  rw[zA oM,zB o];exact P;rw[zA oM,zA oM];exact j.inc _ _ oM oM
 simp only[if_true]at h1;by_cases e:a=m
 .rw[e,z oM];exact H rank (xgf _) oM t p
 rw[v a oM e];exact H a oM oM t p
theorem zU4{B:Nat}(a6:rank<=m)(R:m<n):∀(j k:Nat) (x:Bst) (M T:Nat) (c:Nat->Nat),rank<=k+j->k<=rank->leB M n Cs Ct x->leM T n Cs x.s->1<=T->1<=M->Ech Cs rank c x.s->
  (∀a,rank<=a->a<m->∀t,t<Cs->x.s a t=0)->(∀i,i<k->lead Cs x.s m<0∨lead Cs x.s i<lead Cs x.s m)->(∀G,2*T*G<=(2*T)^(4^j)->M*G<B)->
  ∃f l b c',zB7 B n Cs Ct m rank f k x=some (zCf l x,b)/\jZ n l/\2*T*gro l<=(2*T)^(4^j)/\zXu Cs m rank x.s (zBF l x.s) b c':=by
 intro j;induction j with
 | zero=>
  intro k x M T c c2 c3 Y P a0 Z o C X O;by_cases J:lead Cs x.s m<0
  .obtain⟨w,q⟩:=zQn (B:=B) (n:=n) (Ct:=Ct) (k:=k) J o C
   exact⟨1,[],false,c,w,jZ.nil,by simp[gro],q⟩
  obtain⟨g,w,q,L,N⟩:=zHl J;obtain rfl:k=rank:=oM;obtain⟨l,s,v,A,H⟩:=zQo (B:=B) (n:=n) (Ct:=Ct) (k:=k) (k':=k) a6 R w q L N o C (zPs fun h=>by omega) (xgf _) (fun i u=>by
   have:=X i u;rw[o.lead u]at this;omega) (fun h=>by omega)
  exact⟨1,l,true,_,s,v,by rw[A];simp,H⟩
 | succ j ih=>
  intro k x M T c c2 c3 Y P a0 Z o C X O;by_cases J:lead Cs x.s m<0
  .obtain⟨w,q⟩:=zQn (B:=B) (n:=n) (Ct:=Ct) (k:=k) J o C
   exact⟨1,[],false,c,w,jZ.nil,by rw[show gro []=1 from rfl,jS];exact zBU (by have:=qG (n:=j+1) (show 0<4 by omega);omega) _,q⟩
  obtain⟨g,w,q,L,N⟩:=zHl J;obtain⟨a1,a2,U,a4⟩:=zVU (lead Cs x.s) (lead Cs x.s m) (rank-k) k;obtain⟨k',b2⟩:∃k',adv (lead Cs x.s) (lead Cs x.s m) (rank-k) k=k':=⟨_,rfl⟩;rw[b2]at a1 a2 U a4;have b4:∀i,i<k'->c i<g:=fun i u=>by
   rcases zK i k with h|h
   .have:=X i h
    rw[o.lead (k:=i) oM]at this;omega
   have:=U i h u;rw[o.lead (k:=i) oM]at this;omega
  by_cases a9:k'<rank/\c k'=g
  .obtain⟨I,Q⟩:=a9
   have hp:=o.pos k' I;rw[Q]at hp;obtain⟨p,c5⟩:∃p:Nat,x.s k' g=(p:Int):=⟨(x.s k' g).toNat,oM⟩;have b8:p<=T:=by
    have:=P k' oM g q;omega
   have b7:(x.s m g).natAbs<=T:=P m R g q;have hq:(x.s m g/(p:Int)).natAbs<=T:=by
    refine zD ?_ b7;have:(0:Int)<p:=oM;rcases zCX 0 (x.s m g)with h|h
    .have s:=zCC h (show(0:Int)<=p by omega)
     have v:=zDW (p:Int) h;omega
    have s:x.s m g/(p:Int)<=0:=zBE h this;have v:x.s m g<=x.s m g/(p:Int):=by
     rw[zCI this];have:x.s m g*(p:Int)<=x.s m g*1:=zBY h oM;omega
    omega
   have b6:(1+(x.s m g/(p:Int)).natAbs)*(2*p*p)<=(1+T)*(2*T*T):=qO oM (qO oM b8);have a8:=zRG a0;have c4:(2*T)^4<=(2*T)^(4^(j+1)):=zDH oM (zD (show 4<=4^1 by omega) (zX oM oM));obtain⟨F,r,e1,V,e3,E,e5,e6,e7,e8⟩:=zZa (B:=B) (Ct:=Ct) I a6 R q p x M ((1+T)*(2*T*T)) Y Z oM c5 L (fun t K=>o.zero k' I t oM) N (.inl b6) (O _ (zD a8 c4));obtain⟨y,S⟩:∃y,zCf r x=y:=⟨_,rfl⟩;have a7:y.s=zBF r x.s:=by rw[<-S,zGu]
   rw[<-a7]at E e5 e6 e7 e8;have W:Ech Cs rank c y.s:=by
    refine⟨o.lt,fun i u=>?_,fun i u t K=>?_,o.inc⟩
    .by_cases e:i=k'
     .rw[e,Q];exact e6
     rw[E i oM e];exact o.pos i u
    by_cases e:i=k'
    .rw[e]at K ⊢;exact e5 t oM
    rw[E i oM e];exact o.zero i u t K
   have b0:=zIH r;have b3:lead Cs y.s m<0∨(g:Int)<lead Cs y.s m:=by
    rcases zCp Cs y.s m with⟨c7,-⟩|⟨c1,s,v,A,-⟩
    left;omega;right;rcases zK g c1 with h|h
    omega;exact absurd (e8 c1 h) A
   have hZ:2*(T*gro r)<=(2*T)^4:=by
    refine zD ?_ a8;rw[<-zE];exact zG _ e3
   have a5:(2*(T*gro r))^(4^j)<=(2*T)^(4^(j+1)):=by
    rw[qE 4 j,zN (4^j),jT (2*T) 4];exact yU hZ _
   obtain⟨z,l2,b,c',s,v,A,H⟩:=ih (k'+1) y (M*gro r) (T*gro r) c oM oM (by rw[<-S];exact zHF V Y) (by rw[a7];exact zDt V P) (qM a0 b0) (qM Z b0) W
    (fun a h h' t K=>by rw[E a oM oM];exact C a h h' t K)
    (fun i u=>by
     rcases b3 with h|h
     exact .inl h;right;rw[W.lead oM];by_cases e:i=k'
     .rw[e,Q];exact h
     have:=b4 i oM;omega)
    (fun G hG=>by
     rw[zE];refine O _ (zD ?_ (zD hG a5));rw[zE 2 (T*gro r),zE 2 T,zE T];exact xgf _)
   have b5:zB7 B n Cs Ct m rank z k' y=zB7 B n Cs Ct m rank z (k'+1) y:=zKb I (b3.imp id fun h=>by rw[W.lead I,Q];exact h);have b9:zB7 B n Cs Ct m rank (z+F) k x=zB7 B n Cs Ct m rank (z+F) k' x:=by
    clear O ih e1 a5 s b5;obtain⟨d,hd⟩:∃d,k'=k+d:=⟨k'-k,oM⟩;have:∀D,D<=d->zB7 B n Cs Ct m rank (z+F) k x=zB7 B n Cs Ct m rank (z+F) (k+D) x:=by
     intro D;induction D with
     |zero=>intro _;rfl
     |succ D c6=>
      intro c8;rw[c6 oM];exact zKb oM (.inr (U _ oM oM))
    rw[hd];exact this d (xgf _)
   refine⟨z+F,r++l2,b,c',?_,V.app v,?_,?_⟩;rw[b9,e1,S,b5,s,zDv,S]
   .rw[zHB]
    refine zD ?_ (zD A a5);rw[zE 2 (T*gro r),zE 2 T,zE T];exact xgf _
   rw[zFn,<-a7];obtain⟨t1,t2,t3⟩:=H;exact⟨t1,t2,fun a h t=>by rw[t3 a h,E a oM oM]⟩
  obtain⟨l,s,v,A,H⟩:=zQo (B:=B) (n:=n) (Ct:=Ct) (k:=k) (k':=k') a6 R w q L N o C b2 oM b4 (fun h=>by
   have h5:=a4 oM;rw[o.lead h,w]at h5;have:c k'≠g:=fun e=>a9 ⟨h,e⟩
   omega)
  exact⟨1,l,true,_,s,v,by rw[A,jS];exact zBU (by have:=qG (n:=j+1) (show 0<4 by omega);omega) _,H⟩
def zF0(P:Nat->Nat->Prop)(r:Nat)(c:Nat->Nat)(F:Nat->Nat->Int):Prop:=∀i j,i<j->j<r->P i j->0<=F i (c j)/\F i (c j)<F j (c j)
theorem zUW{B:Nat}{cols:Nat->Int}(b2:rank<=n)(hi:i<rank)(W:∀k,k<rank->cols k=(c k:Int)):∀(m j:Nat) (x:Bst) (M T:Nat),j+m=rank->i<j->leB M n Cs Ct x->leM T n Cs x.s->1<=T->1<=M->Ech Cs rank c x.s->
  (∀d,i<d->d<j->0<=x.s i (c d)/\x.s i (c d)<x.s d (c d))->(∀G,2*T*G<=(2*T)^(2^m)->M*G<B)->
  ∃l,zWW B n Cs Ct cols i m j x=some (zCf l x)/\jZ n l/\2*T*gro l<=(2*T)^(2^m)/\Ech Cs rank c (zBF l x.s)/\(∀a,a≠i->∀t,zBF l x.s a t=x.s a t)∧
   (∀d,i<d->d<rank->0<=zBF l x.s i (c d)/\zBF l x.s i (c d)<zBF l x.s d (c d)):=by
 intro m;induction m with
 |zero=>
  intro j x M T hj Z A E K C f D z;exact⟨[],rfl,jZ.nil,by simp[gro],f,fun a _ t=>rfl,fun d o I=>D d o oM⟩
 | succ m ih=>
  intro j x M T hj Z A E K C f D z;have g:j<rank:=oM;have a3:(cols j).toNat=c j:=by rw[W j g];rfl
  have v:=f.pos j g;have U:1<=2*T:=oM;have Y:(2*T)^(2^m)<=(2*T)^(2^(m+1)):=zDH U (zX oM oM);have a0:(0<=x.s i (c j)/\x.s i (c j)<x.s j (c j))->∃l,zWW B n Cs Ct cols i m (j+1) x=some (zCf l x)/\jZ n l/\2*T*gro l<=(2*T)^(2^(m+1))/\Ech Cs rank c (zBF l x.s)/\(∀a,a≠i->∀t,zBF l x.s a t=x.s a t)∧
   (∀d,i<d->d<rank->0<=zBF l x.s i (c d)/\zBF l x.s i (c d)<zBF l x.s d (c d)):=fun a6=>by
   obtain⟨l,r,u,H,y⟩:=ih (j+1) x M T oM oM A E K C f (fun d o I=>by
    by_cases e:d=j
    .rw[e];exact a6
    exact D d o oM) (fun G J=>z G (zD J Y))
   exact⟨l,r,u,zD H Y,y⟩
  unfold zWW;rw[zA (by rw[W j g];omega),a3];by_cases S:x.s i (c j)=0
  .rw[zB S]
   exact a0 oM
  rw[zA S,zA oM];by_cases P:x.s i (c j)/x.s j (c j)=0
  .rw[zB P]
   refine a0 ?_;have o:=zAP (x.s i (c j)) (x.s j (c j));have I:=zAk (x.s i (c j)) (b:=x.s j (c j)) oM;have h3:=zAx (x.s i (c j)) v;rw[P,qB]at o;omega
  rw[zA P];obtain⟨q,O⟩:∃q,x.s i (c j)/x.s j (c j)=q:=⟨_,rfl⟩;rw[O];have b0:q.natAbs<=T:=by
   refine zD ?_ (E i oM (c j) (f.lt j g));rw[<-O];rcases zCX 0 (x.s i (c j))with h|h
   .have r:=zCC h (zBQ v)
    have u:=zDW (x.s j (c j)) h;omega
   have r:x.s i (c j)/x.s j (c j)<=0:=zBE h v;have u:x.s i (c j)<=x.s i (c j)/x.s j (c j):=by
    rw[zCI v];have:x.s i (c j)*x.s j (c j)<=x.s i (c j)*1:=zBY h oM;omega
   omega
  have V:2*T*(1+q.natAbs)<=(2*T)^2:=by
   rw[Nat.pow_two];exact zG _ oM
  have a5:(2*T)^2<=(2*T)^(2^(m+1)):=zDH U (zD (show 2<=2^1 by omega) (zX oM oM));have a7:zEn B n Cs Ct x i j (-q):=zGa A oM oM oM C (by rw[zY];exact z _ (zD V a5));rw[zB a7];have N:(Op.add i j (-q)).ok n:=⟨oM,oM,oM⟩;have L:gro [Op.add i j (-q)]=1+q.natAbs:=by simp[gro,Op.g]
  have w:∀a t,(zCf [.add i j (-q)] x).s a t=if a=i then x.s i t+-q*x.s j t else x.s a t:=fun a t=>rfl
  have a4:=zAP (x.s i (c j)) (x.s j (c j));have a8:=zAk (x.s i (c j)) (b:=x.s j (c j)) oM;have a9:=zAx (x.s i (c j)) v;rw[O]at a4;have a2:Ech Cs rank c (zCf [.add i j (-q)] x).s:=by
   have a1:∀t,t<=c i->x.s i t+-q*x.s j t=x.s i t:=fun t F=>by
    rw[f.zero j g t (by have:=f.inc i j Z g;omega)];omega
   refine⟨f.lt,fun a p=>?_,fun a p t F=>?_,f.inc⟩
   .rw[w]
    by_cases e:a=i
    .rw[zB e,e,a1 _ (xgf _)];exact f.pos i oM
    rw[zA e];exact f.pos a p
   rw[w];by_cases e:a=i
   .rw[e]at F
    rw[zB e,a1 t oM];exact f.zero i oM t F
   rw[zA e];exact f.zero a p t F
  have X:(2*(T*(1+q.natAbs)))^(2^m)<=(2*T)^(2^(m+1)):=by
   rw[qE 2 m,zN (2^m),jT (2*T) 2,<-zE];exact yU V _
  obtain⟨l,r,u,H,y,g5,R⟩:=ih (j+1) (zCf [.add i j (-q)] x) (M*(1+q.natAbs)) (T*(1+q.natAbs)) oM oM
   (by have:=zHF (jZ.cons N jZ.nil) A;rwa[L]at this)
   (by have:=zDt (jZ.cons N jZ.nil) E;rwa[L]at this) (qM K oM) (qM C oM) a2
   (fun d o I=>by
    rw[w,w,zB rfl,zA oM];by_cases e:d=j
    .rw[e,yE,zZ q]
     constructor<;>omega
    rw[f.zero j g (c d) (f.inc d j oM g),qB,zAJ];exact D d o oM)
   (fun G J=>by
    rw[zE];refine z _ (zD ?_ (zD J X));rw[zE 2 (T*_),zE 2 T,zE T];exact xgf _)
  have Q:∀l,zBF l (zCf [.add i j (-q)] x).s=zBF ([.add i j (-q)]++l) x.s:=fun l=>by rw[zFn];rfl
  rw[Q]at y R;refine⟨[.add i j (-q)]++l,?_,(jZ.cons N jZ.nil).app u,?_,y,fun a p t=>?_,R⟩;rw[zDv];exact r
  .rw[zHB,L]
   refine zD ?_ (zD H X);rw[zE 2 (T*_),zE 2 T,zE T];exact xgf _
  rw[<-Q,g5 a p t,w,zA p]
def zMj(rank:Nat):Nat->Nat
 |0=>0
 |i+1=>(rank-(i+1))+zMj rank i
theorem zUV{B:Nat}{cols:Nat->Int}(U:rank<=n)(Q:∀k,k<rank->cols k=(c k:Int)):∀(i:Nat) (x:Bst) (M T:Nat),i<=rank->leB M n Cs Ct x->leM T n Cs x.s->1<=T->1<=M->Ech Cs rank c x.s->
  zF0 (fun a _=>i<=a) rank c x.s->(∀G,2*T*G<=(2*T)^(2^zMj rank i)->M*G<B)->
  ∃l,zY6 B n Cs Ct cols rank i x=some (zCf l x)/\jZ n l/\2*T*gro l<=(2*T)^(2^zMj rank i)/\Ech Cs rank c (zBF l x.s)/\zF0 (fun _ _=>True) rank c (zBF l x.s)/\(∀a,rank<=a->∀t,zBF l x.s a t=x.s a t):=by
 intro i;induction i with
 |zero=>
  intro x M T S q v w r o u m;exact⟨[],rfl,jZ.nil,by simp[gro,zMj],o,fun a b g f _=>u a b g f (zH _),fun a _ t=>rfl⟩
 | succ i V=>
  intro x M T S q v w r o u m;have O:1<=2*T:=oM;have N:∀e,1<=2^e:=fun e=>qG oM
  have C:2^zMj rank (i+1)=2^(rank-(i+1))*2^zMj rank i:=by
   show 2^((rank-(i+1))+zMj rank i)=_;rw[yM]
  have R:(2*T)^(2^(rank-(i+1)))<=(2*T)^(2^zMj rank (i+1)):=zDH O (by rw[C];exact zO _ (N _));obtain⟨d,I,h,J,K,j,L⟩:=zUW (B:=B) (Ct:=Ct) (i:=i) U oM Q (rank-(i+1)) (i+1) x M T oM oM q v w r o (fun j' g f=>by omega) (fun G p=>m G (zD p R));have A:=zIH d;have z:(2*(T*gro d))^(2^zMj rank i)<=(2*T)^(2^zMj rank (i+1)):=by
   rw[C,jT (2*T),<-zE];exact yU J _
  obtain⟨y,W,X,Y,D,E,F⟩:=V (zCf d x) (M*gro d) (T*gro d) oM (zHF h q) (by rw[zGu];exact zDt h v) (qM w A) (qM r A) (by rw[zGu];exact K)
   (fun a b g f Z=>by
    rw[zGu];by_cases e:a=i
    .rw[e];exact L b oM f
    rw[j a e,j b oM];exact u a b g f oM)
   (fun G p=>by
    rw[zE];refine m _ (zD ?_ (zD p z));rw[zE 2 (T*_),zE 2 T,zE T];exact xgf _)
  have H:zBF y (zCf d x).s=zBF (d++y) x.s:=by rw[zFn,zGu]
  rw[H]at D E F;refine⟨d++y,?_,h.app X,?_,D,E,fun a P t=>?_⟩
  .unfold zY6
   rw[I,zAN,W,zDv]
  .rw[zHB]
   refine zD ?_ (zD Y z);rw[zE 2 (T*_),zE 2 T,zE T];exact xgf _
  rw[F a P t,zGu,j a oM]
theorem zYn:∀m,m<6->∀r,r<=m+1->zMj r r<=m*(m+1)/2:=by decide
structure Hnf(C n r:Nat)(c:Nat->Nat)(F:Nat->Nat->Int):Prop where
 le:r<=n
 ech:Ech C r c F
 red:zF0 (fun _ _=>True) r c F
 zero:∀a,r<=a->a<n->∀t,t<C->F a t=0
def ecE:Nat->Nat->Nat
 |0,_=>1
 |l+1,m=>4^m*2^(m*(m+1)/2)*ecE l (m+1)
theorem zTF(l:Nat):∀m,1<=ecE l m:=by
 induction l with
 |zero=>intro m;exact xgf _
 |succ l a=>intro m;exact qM (qM (qG oM) (qG oM)) (a _)
theorem zK7{B:Nat}(hn:n<=6):∀(l m rank:Nat) (x:Bst) (M T:Nat) (c:Nat->Nat),m+l=n->rank<=m->leB M n Cs Ct x->leM T n Cs x.s->1<=T->1<=M->Ech Cs rank c x.s->zF0 (fun _ _=>True) rank c x.s->
  (∀a,rank<=a->a<m->∀t,t<Cs->x.s a t=0)->(∀G,2*T*G<=(2*T)^ecE l m->M*G<B)->
  ∃f ops r c',(∀g,f<=g->zRC B n Cs Ct g l m rank x=some (zCf ops x))/\jZ n ops/\2*T*gro ops<=(2*T)^ecE l m/\Hnf Cs n r c' (zBF ops x.s):=by
 intro l;induction l with
 |zero=>
  intro m rank x M T c a5 o u w y v E N J q;obtain rfl:m=n:=oM;exact⟨0,[],rank,c,fun g _=>rfl,jZ.nil,by simp[gro,ecE],o,E,N,J⟩
 | succ l ih=>
  intro m rank x M T c a5 o u w y v E N J q;have F:1<=2*T:=oM;have p4:∀e,1<=4^e:=fun e=>qG oM
  have p2:∀e,1<=2^e:=fun e=>qG oM
  have a1:4^rank<=ecE (l+1) m:=by
   unfold ecE;exact zD (zX oM o) (zD (zO _ (p2 _)) (zO _ (zTF _ _)))
  obtain⟨K,d,b,c1,g1,A,g3,C,L,g6⟩:=zU4 (B:=B) (Ct:=Ct) o (show m<n by omega) rank 0 x M T c oM oM u w y v E J (fun i hi=>by omega) (fun G j=>q G (zD j (zDH F a1)));obtain⟨r1,I⟩:∃r1,(if b then rank+1 else rank)=r1:=⟨_,rfl⟩;rw[I]at C L;have U:r1<=m+1:=by rw[<-I];split<;>omega
  have S:=zIH d;have a0:2*(T*gro d)<=(2*T)^(4^m):=by
   rw[<-zE];exact zD g3 (zDH F (zX oM o))
  have a6:=zYn m oM r1 U;have R:(2*(T*gro d))^(2^zMj r1 r1)<=(2*T)^(4^m*2^(m*(m+1)/2)):=by
   rw[jT];exact zD (yU a0 _) (zDH (qG oM) (zX oM a6))
  have a2:(2*T)^(4^m*2^(m*(m+1)/2))<=(2*T)^ecE (l+1) m:=zDH F (by unfold ecE;exact zO _ (zTF _ _));have O:∀G,2*T*(gro d*G)=2*(T*gro d)*G:=fun G=>by
   rw[zE 2 (T*_),zE 2 T,zE T]
  have z:(zCf d x).s=zBF d x.s:=zGu _ _;obtain⟨h,k1,k2,k3,V,W,X⟩:=zUV (B:=B) (Ct:=Ct) (rank:=r1) (cols:=lead Cs (zCf d x).s) (c:=c1) (show r1<=n by omega) (fun k hk=>by rw[z];exact C.lead hk) r1 (zCf d x) (M*gro d) (T*gro d) (xgf _) (zHF A u) (by rw[z];exact zDt A w) (qM y S) (qM v S) (by rw[z];exact C)
   (fun a b D h2 h3=>by omega) (fun G j=>by
    rw[zE];refine q _ ?_;rw[O];exact zD j (zD R a2))
  have a7:=zIH h;have Z:zBF h (zCf d x).s=zBF (d++h) x.s:=by rw[zFn,zGu]
  rw[Z]at V W X;have a4:gro (d++h)=gro d*gro h:=zHB _ _;have H:=A.app k2;have a3:2*(T*gro (d++h))<=(2*T)^(4^m*2^(m*(m+1)/2)):=by
   rw[a4,<-zE,O];exact zD k3 R
  have Q:(2*(T*gro (d++h)))^ecE l (m+1)<=(2*T)^ecE (l+1) m:=by
   show _<=(2*T)^(4^m*2^(m*(m+1)/2)*ecE l (m+1));rw[jT];exact yU a3 _
  have P:∀G,2*T*(gro (d++h)*G)=2*(T*gro (d++h))*G:=fun G=>by
   rw[zE 2 (T*_),zE 2 T,zE T]
  have p:(zCf (d++h) x).s=zBF (d++h) x.s:=zGu _ _;obtain⟨f3,Y,r,c',q1,q2,q3,q4⟩:=ih (m+1) r1 (zCf (d++h) x) (M*gro (d++h)) (T*gro (d++h)) c1 oM U (zHF H u) (by rw[p];exact zDt H w) (qM y (zIH _)) (qM v (zIH _)) (by rw[p];exact V) (by rw[p];exact W)
   (fun a D h2 t ht=>by rw[p,X a D t,z];exact L a D oM t ht)
   (fun G j=>by
    rw[zE];refine q _ ?_;rw[P];exact zD j Q)
  refine⟨max K f3,(d++h)++Y,r,c',fun g hg=>?_,H.app q2,?_,?_⟩
  .unfold zRC
   rw[zU3 g1 (show K<=g by omega),zAN];dsimp only;rw[I];unfold zKS;rw[k1,zAN,<-zDv,q1 g oM,zDv (d++h) Y]
  .rw[zHB,P]
   exact zD q3 Q
  rw[zFn,<-p];exact q4
def KE:Nat:=4194304
theorem zZX(a:n<=4):ecE n 0<=KE:=by
 have:∀n,n<=4->ecE n 0<=4194304:=by decide
 exact this n a
theorem zNO(e:n<=4)(x:Bst)(M T:Nat)(s:leB M n Cs Ct x)(u:leM T n Cs x.s)(v:1<=T)(t:1<=M)(p:∀G,2*T*G<=(2*T)^KE->M*G<B):
  ∃f ops r c',(∀g,f<=g->qAM B n Cs Ct g x=some (zCf ops x))/\jZ n ops/\2*T*gro ops<=(2*T)^KE/\Hnf Cs n r c' (zBF ops x.s):=by
 have h:(2*T)^ecE n 0<=(2*T)^KE:=zDH oM (zZX e);obtain⟨f,ops,r,c',b,c,m,o⟩:=zK7 (B:=B) (Ct:=Ct) (zD e dE) n 0 0 x M T (fun _=>0) oM oM s u v t ⟨fun k d=>oM,fun k d=>oM,fun k d=>oM,fun k l b c=>oM⟩ (fun i j b c=>by omega) (fun a b c=>by omega) (fun G q=>p G (zD q h));exact⟨f,ops,r,c',b,c,zD m h,o⟩
theorem zG7{R:Nat}{F:Nat->Nat->Int}{c:Nat->Int}{v:Nat->Nat->Int}(h:i<k):
  det k (zDQ F i fun a=>qS R fun t=>c t*v a t)=qS R fun t=>c t*det k (zDQ F i fun a=>v a t):=by
 have:=zG8 (k:=k) (R:=R) (F:=trp F) (i:=i) (c:=c) (v:=fun t a=>v a t) h;rw[<-zDG]at this;refine this.trans (zL fun t b=>?_);rw[<-zDG];rfl
theorem zS5(k:Nat):det k idf=1:=by
 rw[zEM (fun a _ b _ h=>by unfold idf;rw[zA oM])];induction k with
 |zero=>rfl
 |succ k c=>unfold jB;rw[c];simp[idf]
theorem zYE(a:k<=4):zOp k<=24:=by
 have:∀k,k<=4->zOp k<=24:=by decide
 exact this k a
theorem zP4(c:k<=4)(h1:1<=h)(hF:∀a,a<k->∀b,b<k->(F a b).natAbs<=h):(det k F).natAbs<=24*h^4:=
 zD (zQ5 hF) (qO (zYE c) (zDH h1 c))
theorem zP5{V:Nat->Nat->Int}(h:∀a,a<r->∀b,b<r->qS R (fun t=>P a t*V t b)=idf a b):∃σ:Nat->Nat,(∀a,a<r->σ a<R)/\det r (fun a b=>V (σ a) b)≠0:=by
 refine zR fun e=>?_
 have c:(0:Int)∣det r fun a b=>qS R fun t=>P a t*V t b:=zC6 fun σ f=>by
  have:det r (fun a b=>V (σ a) b)=0:=zR fun d=>e ⟨σ,f,d⟩
  rw[this];exact zAh 0
 rw[zAs (G:=idf) h,zS5]at c;have:=Int.zero_dvd.1 c;omega
theorem zLF{σ:Nat->Nat}(Q:r<=4)(h1:1<=h)(k:Ech C r c H)(S:zF0 (fun _ _=>True) r c H)(D:leM h R C A)(G:∀a,a<R->∀b,b<C->A a b=qS r fun t=>X t a*H t b)
  (u:∀a,a<r->σ a<R) (Z:det r (fun a b=>X b (σ a))≠0):leM (24*(8*h)^4) r C H:=by
 have O:∀j,j<r->∀t,j<t->t<r->H t (c j)=0:=fun j g t h2 o=>k.zero t o _ (k.inc j t h2 o)
 have M:∀j,j<r->∀a,a<R->(X j a).natAbs<=h*2^j:=by
  intro j;induction j using Nat.strongRecOn with
  | ind j V=>
   intro g a f;have e:=G a f (c j) (k.lt j g);have hp:=k.pos j g;rw[zE4 (n:=j+1) oM (fun t h2 o=>by rw[O j g t oM o,qB])]at e;have T:qS (j+1) (fun t=>X t a*H t (c j))=qS j (fun t=>X t a*H t (c j))+X j a*H j (c j):=rfl;rw[T]at e;obtain⟨p,P⟩:∃p:Nat,H j (c j)=(p:Int):=⟨(H j (c j)).toNat,oM⟩;have U:∀m,m<=j->(qS m (fun t=>X t a*H t (c j))).natAbs<=(h*2^m-h)*p:=by
    intro m;induction m with
    |zero=>intro _;simp[qS]
    | succ m W=>
     intro hm;have y:=W oM;have l:=V m oM oM a f;have q:=S m j oM g trivial;have z:(H m (c j)).natAbs<=p:=oM;have L:(X m a*H m (c j)).natAbs<=h*2^m*p:=by rw[qU];exact qO l z
     have B:(qS (m+1) (fun t=>X t a*H t (c j))).natAbs<=(qS m (fun t=>X t a*H t (c j))).natAbs+(X m a*H m (c j)).natAbs:=by
      show(qS m (fun t=>X t a*H t (c j))+X m a*H m (c j)).natAbs<=_;omega
     have Y:(h*2^m-h)*p+h*2^m*p=(h*2^(m+1)-h)*p:=by
      rw[<-zW];congr 1;have:h<=h*2^m:=zO _ (qG oM);rw[qE,<-zE];omega
     omega
   have y:=U j (xgf _);have l:=D a f (c j) (k.lt j g);have q:(X j a*H j (c j)).natAbs<=h+(h*2^j-h)*p:=oM;rw[qU,P,yT]at q;have z:h<=h*p:=zO _ oM;have L:h*p+(h*2^j-h)*p=h*2^j*p:=by
    rw[<-zW];congr 1;have:h<=h*2^j:=zO _ (qG oM);omega
   have B:(X j a).natAbs*p<=h*2^j*p:=oM;exact Nat.le_of_mul_le_mul_right B oM
 have N:∀j,j<r->∀a,a<R->(X j a).natAbs<=8*h:=fun j g a f=>by
  have y:=M j g a f;have l:2^j<=2^3:=zX oM oM;have q:h*2^j<=h*2^3:=zG _ l;omega
 intro i s b E;have J:det r (zDQ (fun a b=>X b (σ a)) i fun a=>A (σ a) b)=H i b*det r (fun a b=>X b (σ a)):=by
  have K:det r (zDQ (fun a b=>X b (σ a)) i fun a=>A (σ a) b)=det r (zDQ (fun a b=>X b (σ a)) i fun a=>qS r fun t=>H t b*X t (σ a)):=zAs fun a f w F=>by
   unfold zDQ;split
   .dsimp only
    rw[G _ (u a f) b E];exact zL fun t I=>zZ _ _
   rfl
  rw[K,zG7 (v:=fun a t=>X t (σ a)) s,zBA (c:=i) s];rw[zH5 (fun a b=>X b (σ a)) i];intro t I a0;have:det r (zDQ (fun a b=>X b (σ a)) i fun a=>X t (σ a))=0:=by
   rcases zK t i with h2|h2
   exact zFD h2 s fun a=>by unfold zDQ;rw[zB rfl,zA oM]
   exact zFD (c:=i) (d:=t) oM I fun a=>by unfold zDQ;rw[zB rfl,zA oM]
  rw[this,qB]
 have x:(det r (zDQ (fun a b=>X b (σ a)) i fun a=>A (σ a) b)).natAbs<=24*(8*h)^4:=zP4 Q oM fun a f w F=>by
  unfold zDQ;split
  .have:=D _ (u a f) b E
   dsimp only;omega
  exact N w F _ (u a f)
 rw[J,qU]at x;exact zD (zO _ oM) x
theorem zTV{U:Nat->Nat->Int}(m:R<=4)(h1:1<=h)(d:Hnf C R r c H)(l:leM h R C A)(n:∀a,a<R->∀b,b<C->A a b=qS R fun t=>X t a*H t b)
  (q:∀a,a<R->∀b,b<R->dot R U X a b=idf a b):leM (24*(8*h)^4) R C H:=by
 obtain⟨u,s,o⟩:=zP5 (r:=r) (R:=R) (P:=U) (V:=fun t b=>X b t) (fun a f b e=>q a (by have:=d.le;omega) b (by have:=d.le;omega));have e:=zLF (zD d.le m) h1 d.ech d.red l (fun a f b e=>by
  rw[n a f b e];exact zE4 d.le fun t j k=>by rw[d.zero t j k b e,qB]) s o
 intro i p b g;rcases zK i r with hir|hir
 exact e i hir b g;rw[d.zero i hir p b g];exact zH _
theorem zLG{e:Nat}{σ:Nat->Nat}(i:Hnf m n r c H)(w:∀a,a<n->∀b,b<m->F a b=qS n fun t=>X t a*H t b)(x:∀a,a<n->∀b,e<=b->b<m->H a b=0)(E:e<=m)
  (B:∀a,a<e->σ a<n) (y:det e (fun a b=>F (σ a) b)≠0):r=e/\∀k,k<r->c k=k:=by
 have p:∀k,k<r->c k<e:=fun k f=>by
  rcases zK (c k) e with h|h
  exact h;have g:=x k (by have:=i.le;omega) (c k) h (i.ech.lt k f);have j:=i.ech.pos k f;omega
 have q:∀k,k<r->k<=c k:=by
  intro k;induction k with
  |zero=>intro _;omega
  |succ k o=>
   intro f;have g:=o oM;have j:=i.ech.inc k (k+1) oM f;omega
 have D:r<=e:=by
  rcases qV r with h|h
  omega;have g:=q (r-1) oM;have j:=p (r-1) oM;omega
 have C:e<=r:=by
  rcases zK r e with h|h
  .have g:(0:Int)∣det e fun a b=>qS n fun t=>X t (σ a)*H t b:=zC6 (P:=fun a t=>X t (σ a)) (F:=H) fun s l=>by
    refine zDe (R:=n) (F:=H) (fun s l z=>?_) s l;have j:=z.le (e-1) oM;rw[zCe (c:=e-1) oM fun b v=>i.zero _ oM (l _ oM) b oM];exact zAh 0
   rw[zAs (G:=fun a b=>F (σ a) b) fun a u b v=>(w _ (B a u) b oM).symm]at g;exact absurd (Int.zero_dvd.1 g) y
  exact h
 refine⟨oM,fun k f=>?_⟩;have A:∀d k,k+d+1=r->c k+d<e:=by
  intro d;induction d with
  |zero=>intro k f;exact p k oM
  |succ d o=>
   intro k f;have g:=o (k+1) oM;have j:=i.ech.inc k (k+1) oM oM;omega
 have g:=A (r-1-k) k oM;have j:=q k f;omega
theorem zTW(f:Hnf m n r (fun k=>k) H)(w:∀a,a<n->∀b,b<m->F a b=qS n fun t=>X t a*H t b)(B:j<=r)(y:∀a,a<j->∀b,b<j->a<b->F a b=0):
  jB j (fun i=>H i i)∣jB j (fun i=>F i i):=by
 have D:=f.le;have C:r<=m:=by
  rcases qV r with h|h
  omega;have:=f.ech.lt (r-1) oM;omega
 rw [<-zEM y];have u:jB j (fun i=>H i i)∣det j fun a b=>qS n fun t=>X t a*H t b:=zC6 (P:=fun a t=>X t a) (F:=H) fun e o=>by
  refine zDe (R:=n) (F:=H) (fun e o l=>?_) e o;rcases qV j with hj0|hj0
  subst hj0;exact zAh _;rcases zK (e (j-1)) j with h|h
  .have x:∀d,d<j->e (j-1-d)=j-1-d:=by
    intro d hd;have h2:=l.le (j-1-d) oM;rcases qV d with p|p
    .subst p
     have:=l.le (j-1) oM;simp only[Nat.sub_zero]at*;omega
    have:∀d,d<j->e (j-1-d)+d<=e (j-1):=by
     intro d;induction d with
     |zero=>intro _;simp
     |succ d z=>
      intro hd;have A:=z oM;have s:=l (j-1-(d+1)) oM;rw[show j-1-(d+1)+1=j-1-d by omega]at s;omega
    have:=this d hd;omega
   rw[zAs (G:=H) fun a q b g=>by
    have:=x (j-1-a) oM;rw[show j-1-(j-1-a)=a by omega]at this;rw[this]]
   rw[zF7 fun a q b g v=>f.ech.zero a oM b v];exact zAh _
  rw[zCe (c:=j-1) oM fun b g=>?_];exact zCW _;rcases zK (e (j-1)) r with h2|h2
  exact f.ech.zero _ h2 b oM;exact f.zero _ h2 (o _ oM) b oM
 rwa[zAs (G:=F) fun a q b g=>(w a oM b oM).symm]at u
theorem zVv(f:Hnf m n r (fun k=>k) H)(A:∀a,a<n->∀b,b<m->F a b=qS n fun t=>X t a*H t b)(B:∀a,a<r->∀b,b<r->a<b->F a b=0)(D:∀i,i<r->F i i=H i i)(L:r<=m):
  ∀i,i<r->∀b,b<r->i<b->H i b=0:=by
 have M:=f.le;have w:∀a,a<n->∀b,b<m->F a b=qS r fun t=>X t a*H t b:=fun a z b d=>by
  rw[A a z b d];refine zE4 f.le fun t u l=>?_
  rw[f.zero t u l b d,qB]
 intro i;induction i using Nat.strongRecOn with
 | ind i x=>
  intro g;have J:0<H i i:=f.ech.pos i g;have C:X i i=1:=by
   have e:=w i oM i oM;rw[zBA (c:=i) g (fun t j p=>by
    rcases zK t i with h|h
    rw[x t h j i g h,qB];rw[f.ech.zero t j i (by show i<t;omega),qB]),D i g]at e
   have u:(X i i-1)*H i i=0:=by rw[zED,zAG];omega
   rcases Int.mul_eq_zero.1 u with h|h<;>omega
  have I:∀b,b<r->i<b->H i b=0/\X b i=0:=by
   intro b;induction b using Nat.strongRecOn with
   | ind b G=>
    intro d o;have e:=w i oM b oM;rw[B i g b d o]at e;have E:qS r (fun t=>X t i*H t b)=X i i*H i b+X b i*H b b:=by
     have y:qS r (fun t=>X t i*H t b)=qS r (fun t=>(if t=i then X i i*H i b else 0)+(if t=b then X b i*H b b else 0)):=zL fun t j=>by
      by_cases q:t=i
      .rw[zB q,zA oM,q];omega
      rw[zA q];by_cases s:t=b
      .rw[zB s,s];omega
      rw[zA s];rcases zK t b with h|h
      .rcases zK t i with l|l
       .rw[x t l j b d oM,qB];rfl
       rw[(G t h j oM).2,yK];rfl
      rw[f.ech.zero t j b (by show b<t;omega),qB];rfl
     rw[y,zBw,zBA (c:=i) g (fun t _ p=>zA p),zBA (c:=b) d (fun t _ p=>zA p),zB rfl,zB rfl]
    rw[E,C,zAG]at e;have K:0<=H i b/\H i b<H b b:=f.red i b o d trivial;have v:X b i=0:=by
     rcases zAt (X b i) 0 with h|h|h
     .have:X b i*H b b<=-1*H b b:=yY oM oM
      omega
     exact h;have:1*H b b<=X b i*H b b:=yY oM oM;omega
    rw[v,yK]at e;exact⟨oM,v⟩
  exact fun b d o=>(I b d o).1
theorem zQD{P Q P' Q':Nat->Nat->Int}(O:r<=4)(h1:1<=h)(m:Hnf C R r (fun k=>k) H)(K:∀a,a<R->∀b,r<=b->b<C->H a b=0)(I:leM h R C A)
  (S:∀a,a<R->∀b,b<C->H a b=qS R fun s=>P a s*qS C fun t=>A s t*Q t b) (L:∀a,a<R->∀b,b<C->A a b=qS R fun s=>P' a s*qS C fun t=>H s t*Q' t b):
  (jB r (fun i=>H i i)).natAbs<=24*h^4:=by
 have Z:=m.le;have Y:r<=C:=by
  rcases qV r with h|h
  omega;have:=m.ech.lt (r-1) oM;omega
 have X:0<jB r (fun i=>H i i):=zAT fun i l=>m.ech.pos i l
 have B:det r H=jB r (fun i=>H i i):=zF7 fun a f b j J=>m.ech.zero a f b J
 obtain⟨g,e,q,v,W⟩:∃g e:Nat->Nat,(∀a,a<r->g a<R)/\(∀a,a<r->e a<C)/\det r (fun a b=>A (g a) (e b))≠0:=by
  refine zR fun N=>?_
  have x:(0:Int)∣det r fun a b=>qS R fun s=>P a s*qS C fun t=>A s t*Q t b:=zF6 fun g e q v=>by
   have:det r (fun a b=>A (g a) (e b))=0:=zR fun E=>N ⟨g,e,q,v,E⟩
   rw[this];exact zAh 0
  rw[zAs (G:=H) fun a f b j=>(S a oM b oM).symm,B]at x;have:=Int.zero_dvd.1 x;omega
 have p:jB r (fun i=>H i i)∣det r fun a b=>qS R fun s=>P' (g a) s*qS C fun t=>H s t*Q' t (e b):=zF6 (P:=fun a s=>P' (g a) s) (Q:=fun t b=>Q' t (e b)) fun n o u w=>by
  refine zGA (R:=R) (C:=C) (F:=H) (fun n o u w l M=>?_) n o u w;rcases qV r with hr0|hr0
  subst hr0;exact zAh _;have D:∀e:Nat->Nat,Inc r e->e (r-1)<r->∀a,a<r->e a=a:=by
   intro e l V a f;have U:=l.le a f;have:∀d,d<r->e (r-1-d)+d<=e (r-1):=by
    intro d;induction d with
    |zero=>intro _;simp
    |succ d T=>
     intro hd;have x:=T oM;have p:=l (r-1-(d+1)) oM;rw[show r-1-(d+1)+1=r-1-d by omega]at p;omega
   have:=this (r-1-a) oM;rw[show r-1-(r-1-a)=a by omega]at this;omega
  rcases zK (n (r-1)) r with y|y
  .rcases zK (o (r-1)) r with z|z
   .rw[zAs (G:=H) fun a f b j=>by rw[D n l y a f,D o M z b j],B]
    exact zAh _
   rw[zIl (F:=fun a b=>H (n a) (o b)) (c:=r-1) oM fun a f=>K _ (u a f) _ z (w _ oM)];exact zCW _
  rw[zCe (c:=r-1) oM fun b j=>m.zero _ y (u _ oM) _ (w b j)];exact zCW _
 rw[zAs (G:=fun a b=>A (g a) (e b)) fun a f b j=>(L _ (q a f) _ (v b j)).symm]at p;refine zD ?_ (zP4 (F:=fun a b=>A (g a) (e b)) O h1 fun a f b j=>I _ (q a f) _ (v b j));exact zCA oM (Int.natAbs_dvd_natAbs.2 p)
theorem zPO{f:Nat->Int}(h:∀i,i<r->0<f i)(d:i<r):f i<=jB r f:=by
 induction r with
 |zero=>omega
 | succ r b=>
  have k:0<jB r f:=zAT fun j a=>h j oM
  have g:=h r oM;unfold jB;by_cases e:i=r
  .rw[e]
   have:1*f r<=jB r f*f r:=yY oM oM;omega
  have c:=b (fun j a=>h j oM) oM;have:jB r f*1<=jB r f*f r:=zAe oM oM;omega
theorem zNU(f:Hnf C R r (fun k=>k) H)(n:∀a,a<R->∀b,r<=b->b<C->H a b=0)(m:(jB r (fun i=>H i i)).natAbs<=T):leM T R C H:=by
 intro a h b j;refine zD ?_ m;have l:∀i,i<r->0<H i i:=fun i o=>f.ech.pos i o
 rcases zK a r with d|d
 .rcases zK b r with e|e
  .have g:=zPO l e
   rcases yS a b with c|c|c
   .have:0<=H a b/\H a b<H b b:=f.red a b c e trivial
    omega
   .subst c
    have:=l a d;omega
   rw[f.ech.zero a d b c];omega
  rw[n a h b e j];omega
 rw[f.zero a d h b j];omega
structure Rel(R C:Nat)(A:Nat->Nat->Int)(z:W5):Prop where
 s:∀a,a<R->∀b,b<C->z.s a b=qS R fun s=>z.u a s*qS C fun t=>A s t*z.w b t
 uv:∀a,a<R->∀b,b<R->dot R z.u z.v a b=idf a b
 vu:∀a,a<R->∀b,b<R->cod R z.v z.u a b=idf a b
 wx:∀a,a<C->∀b,b<C->dot C z.w z.x a b=idf a b
 xw:∀a,a<C->∀b,b<C->cod C z.x z.w a b=idf a b
theorem zHe(a b:Nat):idf a b=idf b a:=by unfold idf;split<;>split<;>omega
theorem zIY(b:a<n)(f:Nat->Int):qS n (fun t=>f t*idf t a)=f a:=by
 rw[zBA (c:=a) b];unfold idf;rw[zB rfl,zAl];intro t e d;unfold idf;rw[zA d,qB]
theorem zIG(n:Nat):∀a,a<n->∀b,b<n->dot n idf idf a b=idf a b:=fun a d b c=>by
 unfold dot;rw[zL (g:=fun t=>idf a t*idf t b) (fun t e=>by rw[zHe b t]),zIY c]
theorem zSy(n:Nat):∀a,a<n->∀b,b<n->cod n idf idf a b=idf a b:=fun a d b c=>by
 unfold cod;rw[zL (g:=fun t=>idf a t*idf t b) (fun t e=>by rw[zHe t a]),zIY c]
theorem Rel.start(R C:Nat)(A:Nat->Nat->Int):Rel R C A ⟨A,idf,idf,idf,idf⟩:=
 ⟨fun a c b d=>by
  show A a b=qS R fun s=>idf a s*qS C fun t=>A s t*idf b t
  rw[<-zMI c fun s=>qS C fun t=>A s t*idf b t,zL (g:=fun t=>A a t*idf t b) (fun t e=>by rw[zHe b t]),zIY d],
 zIG R,zSy R,zIG C,zSy C⟩
theorem Rel.rows{z:W5}{l:List Op}(h:Rel R C A z)(e:jZ R l):Rel R C A ⟨zBF l z.s,zBF l z.u,zNh l z.v,z.w,z.x⟩:=
 ⟨fun a c b d=>zPI (b:=b) (G:=fun s b=>qS C fun t=>A s t*z.w b t) e (fun a c=>h.s a c b d) a c,zIP e h.uv,fun a c b d=>by
  show cod R (zNh l z.v) (zBF l z.u) a b=_;rw[zPH e];exact h.vu a c b d,h.wx,h.xw⟩
theorem Rel.cols{z:W5}{l:List Op}(h:Rel R C A z)(e:jZ C l):Rel R C A ⟨trF (zBF l (trF z.s)),z.u,z.v,zBF l z.w,zNh l z.x⟩:=
 ⟨fun a d b c=>by
  have f:∀b,b<C->trF z.s b a=qS C fun t=>z.w b t*qS R fun s=>z.u a s*A s t:=fun b c=>by
   show z.s a b=_;rw[h.s a d b c];simp only[<-jK];rw[zBs];refine zL fun t j=>zL fun s i=>?_
   rw[zZ (z.w b t),qA]
  have g:=zPI (b:=a) (G:=fun t a=>qS R fun s=>z.u a s*A s t) e f b c;show zBF l (trF z.s) b a=_;rw[g];simp only[<-jK];rw[zBs];refine zL fun t j=>zL fun s i=>?_
  rw[zZ (zBF l z.w b s),qA],
 h.uv,h.vu,zIP e h.wx,fun a d b c=>by
  show cod C (zNh l z.x) (zBF l z.w) a b=_;rw[zPH e];exact h.xw a d b c⟩
theorem Rel.back{z:W5}(h:Rel R C A z):∀a,a<R->∀b,b<C->A a b=qS R fun s=>z.v s a*qS C fun t=>z.s s t*z.x t b:=by
 intro a g b i;have l:∀s,s<R->qS C (fun t=>z.s s t*z.x t b)=qS R fun c=>z.u s c*A c b:=fun s e=>by
  have m:∀t,t<C->z.s s t*z.x t b=qS R fun c=>z.u s c*(qS C fun d=>A c d*(z.w t d*z.x t b)):=fun t j=>by
   rw[h.s s e t j,<-zC9];refine zL fun c f=>?_
   rw[qA,<-zC9];congr 1;exact zL fun d k=>qA _ _ _
  rw[zL m,zBs];refine zL fun c f=>?_
  rw[jK,zBs];congr 1;have n:∀d,d<C->qS C (fun t=>A c d*(z.w t d*z.x t b))=A c d*idf d b:=fun d k=>by
   rw[jK];have:=h.xw b i d k;unfold cod at this;rw[zHe d b,<-this];congr 1;exact zL fun t j=>zZ _ _
  rw[zL n,zIY i fun d=>A c d]
 rw[zL (fun s e=>by rw[l s e])];have o:∀s,s<R->z.v s a*qS R (fun c=>z.u s c*A c b)=qS R fun c=>(z.v s a*z.u s c)*A c b:=fun s e=>by
  rw[<-jK];exact zL fun c f=>(qA _ _ _).symm
 rw[zL o,zBs];have p:∀c,c<R->qS R (fun s=>(z.v s a*z.u s c)*A c b)=idf a c*A c b:=fun c f=>by
  rw[zC9];congr 1;exact h.vu a g c f
 rw[zL p];exact zMI g fun c=>A c b
structure leW(M R C Cu Cw:Nat)(z:W5):Prop where
 s:leM M R C z.s
 u:leM M R Cu z.u
 v:leM M R Cu z.v
 w:leM M C Cw z.w
 x:leM M C Cw z.x
theorem leW.mono{z:W5}(h:leW M R C Cu Cw z)(a:M<=M'):leW M' R C Cu Cw z:=⟨h.s.mono a,h.u.mono a,h.v.mono a,h.w.mono a,h.x.mono a⟩
theorem zLT(h:leM M R C F):leM M C R (trF F):=fun a c b d=>h b d a c
def rnd(z:W5)(l1 l2:List Op):W5:=⟨trF (zBF l2 (trF (zBF l1 z.s))),zBF l1 z.u,zNh l1 z.v,zBF l2 z.w,zNh l2 z.x⟩
theorem Rel.rnd{z:W5}{a b:List Op}(h:Rel R C A z)(h1:jZ R a)(h2:jZ C b):Rel R C A (rnd z a b):=(h.rows h1).cols h2
def GE(T:Nat):Nat:=(2*T)^KE
theorem zJX(h:1<=T):1<=GE T:=qG oM
theorem zXN{l:List Op}(a:1<=T)(h:2*T*gro l<=(2*T)^KE):gro l<=GE T:=zD (qQ _ oM) h
theorem zLj{z:W5}(J:R<=4)(H:C<=4)(b:leW M R C Cu Cw z)(K:leM T R C z.s)(h:1<=T)(p:1<=M)(o:M*(GE T*GE T)<B)
  (O:∀l r c,jZ R l->Hnf C R r c (zBF l z.s)->leM T R C (zBF l z.s)):
  ∃f a d r1 c1 r2 c2,(∀g,f<=g->zQb B R C Cu Cw g z=some (rnd z a d))/\jZ R a/\jZ C d/\leW (M*(GE T*GE T)) R C Cu Cw (rnd z a d)∧
   Hnf C R r1 c1 (zBF a z.s)/\Hnf R C r2 c2 (zBF d (trF (zBF a z.s))):=by
 have j:=zJX h;obtain⟨E,a,r1,c1,w,e,x,n⟩:=zNO (B:=B) (Ct:=Cu) J ⟨z.s,z.u,z.v⟩ M T ⟨b.s,b.u,b.v⟩ K h p (fun G k=>by
  refine zI (zG _ ?_) o;have:G<=GE T:=zD (qQ _ oM) k;exact zD this (zO _ j))
 have s:=zXN h x;have L:=O a r1 c1 e n;have q:leM (M*GE T) R C (zBF a z.s):=(zDt e b.s).mono (zG _ s);have m:M<=M*GE T:=zO _ j;obtain⟨F,d,r2,c2,y,i,A,D⟩:=zNO (B:=B) (Ct:=Cw) H ⟨trF (zBF a z.s),z.w,z.x⟩ (M*GE T) T ⟨zLT q,b.w.mono m,b.x.mono m⟩ (zLT L) h (qM p j) (fun G k=>by
  rw[zE];refine zI (zG _ (zG _ ?_)) o;exact zD (qQ _ oM) k)
 have N:=zXN h A;have I:M*GE T<=M*(GE T*GE T):=zG _ (zO _ j);have u:M*GE T*gro d<=M*(GE T*GE T):=by
  rw[zE];exact zG _ (zG _ N)
 have v:M*gro d<=M*(GE T*GE T):=zD (zP _ m) u;have t:M*gro a<=M*(GE T*GE T):=zD (zG _ s) I;refine⟨max E F,a,d,r1,c1,r2,c2,fun g P=>?_,e,i,⟨?_,?_,?_,?_,?_⟩,n,D⟩
 .unfold zQb
  rw[w g oM,zAN,zHL];dsimp only;rw[y g oM,zAN,zHL];rfl
 exact(zLT (zDt i (zLT q))).mono u;exact(zDt e b.u).mono t;exact(zMN e b.v).mono t;exact(zDt i b.w).mono v;exact(zMN i b.x).mono v
structure Low(R C r:Nat)(F:Nat->Nat->Int):Prop where
 hnf:Hnf R C r (fun k=>k) (trF F)
 row:∀a,r<=a->a<R->∀b,b<C->F a b=0
 le:r<=R
theorem zNi{b:Nat}{l:List Op}(d:jZ n l):∀{F:Nat->Nat->Int},(∀a,a<n->F a b=0)->∀a,a<n->zBF l F a b=0:=by
 intro F h a c;rw[zKG d F a c b];exact zBt fun t e=>by rw[h t e,qB]
theorem second{p:List Op}(h:Hnf C R r1 c1 H)(r:jZ C p)(h2:Hnf R C r2 c2 (zBF p (trF H))):
  r2=r1/\(∀k,k<r1->c2 k=k)/\Low R C r1 (trF (zBF p (trF H))):=by
 have s:∀a,a<C->∀b,r1<=b->b<R->zBF p (trF H) a b=0:=fun a d b g m=>zNi r (fun u w=>h.zero b g m u w) a d
 have y:det r1 (fun a b=>trF H (c1 a) b)≠0:=by
  have e:(fun a b=>trF H (c1 a) b)=trp (fun a b=>H a (c1 b)):=rfl;rw[e,zDG,zF7 fun a d b q x=>h.ech.zero a d _ (h.ech.inc b a x d)];have:=zAT (n:=r1) (f:=fun i=>H i (c1 i)) fun i z=>h.ech.pos i z
  omega
 obtain⟨v,o⟩:=zLG h2 (fun a d b _=>zEZ r (trF H) a d b) s h.le (fun a d=>h.ech.lt a d) y;subst v;refine⟨rfl,fun k c=>o k c,⟨h2.le,⟨fun k c=>?_,fun k c=>?_,fun k c t A=>?_,fun k l g _=>g⟩,fun i j g m _=>?_,h2.zero⟩,fun a g m b q=>s b q a g m,h.le⟩;have:=h2.ech.lt k c;rwa[o k c]at this;have:=h2.ech.pos k c;rw[o k c]at this;exact this;exact h2.ech.zero k c t (by rw[o k c];exact A);have:=h2.red i j g m trivial;rw[o j m]at this;exact this
theorem Hnf.congr_c(h:Hnf C n r c F)(b:∀k,k<r->c k=k):Hnf C n r (fun k=>k) F:=
 ⟨h.le,⟨fun k a=>by have:=h.ech.lt k a;rwa[b k a]at this,fun k a=>by have:=h.ech.pos k a;rw[b k a]at this;exact this,fun k a t f=>h.ech.zero k a t (by rw[b k a];exact f),fun k l d _=>d⟩,
  fun i j d e _=>by have:=h.red i j d e trivial;rw[b j e]at this;exact this,h.zero⟩
theorem first{d:List Op}(hF:Low R C r F)(e:jZ R d)(h1:Hnf C R r1 c1 (zBF d F)):
  r1=r/\Hnf C R r (fun k=>k) (zBF d F)/\∀a,a<R->∀b,r<=b->b<C->zBF d F a b=0:=by
 have g:∀a,a<R->∀b,r<=b->b<C->zBF d F a b=0:=fun a c b m o=>zNi e (fun h p=>hF.hnf.zero b m o h p) a c
 have t:det r (fun a b=>F a b)≠0:=by
  rw[zEM (F:=F) fun a c b s q=>hF.hnf.ech.zero b s a q];have:=zAT (n:=r) (f:=fun i=>F i i) fun i u=>hF.hnf.ech.pos i u
  omega
 obtain⟨j,l⟩:=zLG (σ:=fun a=>a) h1 (fun a c b _=>zEZ e F a c b) g hF.hnf.le (fun a c=>by have:=hF.le;omega) t;subst j;exact⟨rfl,h1.congr_c l,g⟩
def mu(r:Nat)(F:Nat->Nat->Int):Int:=jB r fun j=>jB (j+1) fun i=>F i i
theorem zGH{f g:Nat->Int}(c:∀i,i<n->0<f i)(d:∀i,i<n->0<g i)(hd:∀i,i<n->f i∣g i)(h:jB n f=jB n g):∀i,i<n->f i=g i:=by
 induction n with
 |zero=>intro i a;omega
 | succ n p=>
  unfold jB at h;have q:=zAT (n:=n) (f:=f) fun i a=>c i oM
  have k:=zAT (n:=n) (f:=g) fun i a=>d i oM
  have l:=zDR k (zHy fun i a=>hd i oM);have m:=zDR (d n oM) (hd n oM);have o:=c n oM;have j:jB n f=jB n g:=by
   refine Int.le_antisymm l ?_;refine Int.not_lt.1 fun b=>?_
   have:jB n f*f n<jB n g*f n:=Int.mul_lt_mul_of_pos_right b o;have:jB n g*f n<=jB n g*g n:=zAe m oM;omega
  have b:f n=g n:=by
   rw[j]at h;exact zAd oM h
  intro i a;by_cases e:i=n
  .rw[e];exact b
  exact p (fun i a=>c i oM) (fun i a=>d i oM) (fun i a=>hd i oM) j i oM
theorem zHb{f g:Nat->Int}(c:∀i,i<r->0<g i)(h:∀j,j<=r->jB j f=jB j g):∀i,i<r->f i=g i:=by
 intro i d;have b:=h i oM;have a:=h (i+1) oM;unfold jB at a;rw[b]at a;have:=zAT (n:=i) (f:=g) fun k e=>c k oM
 exact zAd oM a
theorem qAh{h:Nat}{A:Nat->Nat->Int}{z:W5}{c e:List Op}{P:Nat}{D:Nat->Nat}{k:Nat}{E:Nat->Nat}(Q:R<=4)(hF:Low R C r z.s)(h1:jZ R c)(h2:jZ C e)
  (N:Hnf C R P D (zBF c z.s)) (x:Hnf R C k E (zBF e (trF (zBF c z.s)))):
  Low R C r (rnd z c e).s/\(mu r (rnd z c e).s∣mu r z.s)/\(mu r (rnd z c e).s=mu r z.s->zGi R C (rnd z c e).s):=by
 obtain⟨rfl,n,S⟩:=first hF h1 N
 obtain⟨rfl,G,v⟩:=second n h2 x;have p:=x.congr_c G;have y:∀i,i<k->0<z.s i i:=fun i g=>hF.hnf.ech.pos i g
 have O:∀i,i<k->0<zBF c z.s i i:=fun i g=>n.ech.pos i g
 have B:∀i,i<k->0<(rnd z c e).s i i:=fun i g=>v.hnf.ech.pos i g
 have t:∀j,j<=k->jB j (fun i=>zBF c z.s i i)∣jB j (fun i=>z.s i i):=fun j f=>zTW n (fun a d b _=>zEZ h1 z.s a d b) f fun a d b m l=>hF.hnf.ech.zero b oM a l
 have u:∀j,j<=k->jB j (fun i=>(rnd z c e).s i i)∣jB j (fun i=>zBF c z.s i i):=fun j f=>
  zTW (F:=trF (zBF c z.s)) (H:=zBF e (trF (zBF c z.s))) p (fun a d b _=>zEZ h2 _ a d b) f fun a d b m l=>n.ech.zero b oM a l
 refine⟨v,zHy fun j f=>zEQ (u _ oM) (t _ oM),fun M=>?_⟩;have I:=zGH (fun j f=>zAT fun i g=>B i oM) (fun j f=>zAT fun i g=>y i oM) (fun j f=>zEQ (u (j+1) oM) (t (j+1) oM)) M;have J:∀j,j<=k->jB j (fun i=>zBF c z.s i i)=jB j (fun i=>(rnd z c e).s i i):=fun j f=>by
  cases j with
  |zero=>rfl
  |succ j=>
   have o:=I j oM;have q:=zDR (zAT fun i g=>O i oM) (u (j+1) f);have w:=zDR (zAT fun i g=>y i oM) (t (j+1) f);omega
 have K:=zHb B J;have L:=zVv (F:=trF (zBF c z.s)) p (fun a d b _=>zEZ h2 _ a d b) (fun a d b m l=>n.ech.zero b m a l) K hF.le;intro a d b m l;show zBF e (trF (zBF c z.s)) b a=0;rcases zK b k with o|o
 .rcases zK a k with q|q
  .rcases zK b a with w|w
   .exact L b o a q w
   exact p.ech.zero b o a (show a<b by omega)
  exact v.row a q d b m
 exact p.zero b o m a d
end Go.Proofs.YtkidaebmhlijlaaGreat
