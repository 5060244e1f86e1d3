/- Joined. -/
import Derived.Test.YtkidaebmhlijlaaGreatD11
set_option linter.unusedVariables false
set_option linter.unusedSimpArgs false
set_option linter.unusedSectionVars false
set_option maxHeartbeats 16000000
set_option maxRecDepth 100000
variable{B C Cs Ct Cu Cw M M' R T a h i j k k' m n p q r r1 r2 rank:Nat}{L:Nat->Int}{c c1 c2:Nat->Nat}{A F G H P Q X:Nat->Nat->Int}
namespace Go.Proofs.YtkidaebmhlijlaaGreat
open Go.RowKit
inductive Op where
 |add (i j:Nat) (k:Int)
 |swap (i j:Nat)
 |neg (i:Nat)
def Op.f:Op->(Nat->Nat->Int)->(Nat->Nat->Int)
 | .add i j k,F=>zCm F i j k
 | .swap i j,F=>zHy F i j
 | .neg i,F=>zDV F i
def Op.d:Op->(Nat->Nat->Int)->(Nat->Nat->Int)
 | .add i j k,F=>zCm F j i (-k)
 | .swap i j,F=>zHy F i j
 | .neg i,F=>zDV F i
def Op.b(o:Op)(x:Bst):Bst:=⟨o.f x.s,o.f x.t,o.d x.i⟩
def Op.g:Op->Nat
 | .add _ _ k=>1+k.natAbs
 |_=>1
def Op.ok(n:Nat):Op->Prop
 | .add i j _=>i<n/\j<n/\i≠j
 | .swap i j=>i<n/\j<n
 | .neg i=>i<n
def zBI:List Op->(Nat->Nat->Int)->(Nat->Nat->Int)
 | [],F=>F
 |o::l,F=>zBI l (o.f F)
def zNb:List Op->(Nat->Nat->Int)->(Nat->Nat->Int)
 | [],F=>F
 |o::l,F=>zNb l (o.d F)
def zCO:List Op->Bst->Bst
 | [],x=>x
 |o::l,x=>zCO l (o.b x)
def gro:List Op->Nat
 | []=>1
 |o::l=>o.g*gro l
def jS(n:Nat)(l:List Op):Prop:=∀o∈l,o.ok n
theorem zIH(l:List Op):∀x:Bst,zCO l x=⟨zBI l x.s,zBI l x.t,zNb l x.i⟩:=by
 induction l with
 |nil=>intro x;rfl
 |cons o l ih=>intro x;exact ih _
theorem zG0(l:List Op)(x:Bst):(zCO l x).s=zBI l x.s:=by rw[zIH]
theorem zFf(l m:List Op):∀F,zBI (l++m) F=zBI m (zBI l F):=by
 induction l with
 |nil=>intro F;rfl
 |cons o l ih=>intro F;exact ih _
theorem zDk(l m:List Op):∀x,zCO (l++m) x=zCO m (zCO l x):=by
 induction l with
 |nil=>intro F;rfl
 |cons o l ih=>intro F;exact ih _
theorem zHH(l m:List Op):gro (l++m)=gro l*gro m:=by
 induction l with
 |nil=>simp[gro]
 |cons o l ih=>simp[gro,ih,Nat.mul_assoc]
theorem jS.app{l m:List Op}(h:jS n l)(k:jS n m):jS n (l++m):=fun o ho=>(List.mem_append.1 ho).elim (h o) (k o)
theorem jS.cons{o:Op}{m:List Op}(h:o.ok n)(k:jS n m):jS n (o::m):=fun p hp=>by
 rcases List.mem_cons.1 hp with rfl|hp
 exact h;exact k p hp
theorem jS.nil:jS n []:=fun o ho=>by cases ho
theorem Op.g_pos(o:Op):1<=o.g:=by cases o<;>simp[Op.g]
theorem zH5(l:List Op):1<=gro l:=by
 induction l with
 |nil=>exact xgf _
 |cons o l ih=>exact yC o.g_pos ih
def leM(M n C:Nat)(F:Nat->Nat->Int):Prop:=∀a,a<n->∀b,b<C->(F a b).natAbs<=M
theorem leM.mono(h:leM M n C F)(hM:M<=M'):leM M' n C F:=fun a ha b hb=>zB (h a ha b hb) hM
theorem leM.ok(h:leM M n C F)(hM:M<B):okF B n C F:=fun a ha b hb=>zK (h a ha b hb) hM
theorem zSl{k:Int}(h:leM M n C F)(hi:i<n)(hj:j<n):leM (M*(1+k.natAbs)) n C (zCm F i j k):=by
 intro a ha b hb;unfold zCm;split
 ·have h1:=h i hi b hb
  have h2:=h j hj b hb;have h3:(k*F j b).natAbs<=k.natAbs*M:=by rw[qV];exact zH _ h2
  have h4:(F i b+k*F j b).natAbs<=(F i b).natAbs+(k*F j b).natAbs:=oM;rw[zAU,zAr,zN M];omega
 exact zB (h a ha b hb) (zO _ oM)
theorem zPt(hi:i<n)(hj:j<n)(ha:a<n):swp i j a<n:=by unfold swp;split;exact hj;split;exact hi;exact ha
theorem zSn{o:Op}(h:leM M n C F)(ho:o.ok n):leM (M*o.g) n C (o.f F):=by
 cases o with
 |add i j k=>exact zSl h ho.1 ho.2.1
 |swap i j=>
  intro a ha b hb;simp only[Op.g,Nat.mul_one];exact h _ (zPt ho.1 ho.2 ha) b hb
 |neg i=>
  intro a ha b hb;simp only[Op.g,Nat.mul_one,Op.f,zDV];split;rw[zR];exact h a ha b hb;exact h a ha b hb
theorem zYg{o:Op}(h:leM M n C F)(ho:o.ok n):leM (M*o.g) n C (o.d F):=by
 cases o with
 |add i j k=>
  have:=zSl (k:=-k) h ho.2.1 ho.1;rwa[zR]at this
 |swap i j=>exact zSn (o:=.swap i j) h ho
 |neg i=>exact zSn (o:=.neg i) h ho
theorem zDh{l:List Op}(hl:jS n l):∀{M:Nat} {F:Nat->Nat->Int},leM M n C F->leM (M*gro l) n C (zBI l F):=by
 induction l with
 |nil=>intro M F h;simpa[gro,zBI]using h
 |cons o l ih=>
  intro M F h;have:=ih (fun p hp=>hl p (qM _ hp)) (zSn h (hl o (zAP ..)));rwa[zC]at this
theorem zLf{l:List Op}(hl:jS n l):∀{M:Nat} {F:Nat->Nat->Int},leM M n C F->leM (M*gro l) n C (zNb l F):=by
 induction l with
 |nil=>intro M F h;simpa[gro,zNb]using h
 |cons o l ih=>
  intro M F h;have:=ih (fun p hp=>hl p (qM _ hp)) (zYg h (hl o (zAP ..)));rwa[zC]at this
def leB(M n Cs Ct:Nat)(x:Bst):Prop:=leM M n Cs x.s/\leM M n Ct x.t/\leM M n Ct x.i
theorem zXK{o:Op}{x:Bst}(h:leB M n Cs Ct x)(ho:o.ok n):leB (M*o.g) n Cs Ct (o.b x):=⟨zSn h.1 ho,zSn h.2.1 ho,zYg h.2.2 ho⟩
theorem zHK{l:List Op}(hl:jS n l){x:Bst}(h:leB M n Cs Ct x):leB (M*gro l) n Cs Ct (zCO l x):=by
 rw[zIH];exact⟨zDh hl h.1,zDh hl h.2.1,zLf hl h.2.2⟩
theorem zI7{k:Int}{x:Bst}(h:leB M n Cs Ct x)(hi:i<n)(hj:j<n)(hij:i≠j)(hM:1<=M)(hB:M*(1+k.natAbs)<B):zFd B n Cs Ct x i j k:=by
 have e:M*(1+k.natAbs)=M+M*k.natAbs:=by rw[zAU,zAr]
 have hk:k.natAbs<=M*k.natAbs:=qQ _ hM;have hp:∀z:Int,z.natAbs<=M->(k*z).natAbs<B:=fun z hz=>by
  have:k.natAbs*z.natAbs<=k.natAbs*M:=zH _ hz;rw[qV];rw[zN k.natAbs M]at this;omega
 have h2:=zXK (o:=.add i j k) h ⟨hi,hj,hij⟩;exact⟨oM,fun t ht=>hp _ (h.1 j hj t ht),fun t ht=>⟨hp _ (h.2.1 j hj t ht),hp _ (h.2.2 i hi t ht)⟩,h2.1.ok hB,h2.2.1.ok hB,h2.2.2.ok hB⟩
theorem zZP{b:Nat}{o:Op}(ho:o.ok n)(h:∀a,a<n->F a b=zT R fun t=>P a t*G t b):∀a,a<n->o.f F a b=zT R fun t=>o.f P a t*G t b:=by
 intro a ha;cases o with
 | add i j k=>
  show(if a=i then F i b+k*F j b else F a b)=zT R fun t=>(if a=i then P i t+k*P j t else P a t)*G t b
  by_cases e:a=i
  ·rw[if_pos e,h i ho.1,h j ho.2.1,<-yX,<-zBQ]
   refine zF fun t ht=>?_
   rw[if_pos e,zA2,qK]
  rw[if_neg e,h a ha];refine zF fun t ht=>?_
  rw[if_neg e]
 |swap i j=>exact h _ (zPt ho.1 ho.2 ha)
 | neg i=>
  show(if a=i then-(F a b)else F a b)=zT R fun t=>(if a=i then-(P a t)else P a t)*G t b
  by_cases e:a=i
  ·rw[if_pos e,h a ha,<-zAz,<-yX]
   refine zF fun t ht=>?_
   rw[if_pos e,yA,yA,jX]
  rw[if_neg e,h a ha];refine zF fun t ht=>?_
  rw[if_neg e]
theorem zOT{b:Nat}{l:List Op}(hl:jS n l):∀{P F G:Nat->Nat->Int},(∀a,a<n->F a b=zT R fun t=>P a t*G t b)->∀a,a<n->zBI l F a b=zT R fun t=>zBI l P a t*G t b:=by
 induction l with
 |nil=>intro P F G h;exact h
 |cons o l ih=>
  intro P F G h;exact ih (fun p hp=>hl p (qM _ hp)) (zZP (hl o (zAP ..)) h)
theorem zLZ(ha:a<n)(G:Nat->Int):G a=zT n fun t=>idf a t*G t:=by
 rw[zAB (c:=a) ha];unfold idf;rw[if_pos rfl,jX];intro i hi hne;unfold idf;rw[if_neg (fun e=>hne e.symm),zX]
theorem zLt{l:List Op}(hl:jS n l)(F:Nat->Nat->Int):∀a,a<n->∀b,zBI l F a b=zT n fun t=>zBI l idf a t*F t b:=
 fun a ha b=>zOT hl (fun a ha=>zLZ ha fun t=>F t b) a ha
def dot(C:Nat)(P Q:Nat->Nat->Int)(a b:Nat):Int:=zT C fun t=>P a t*Q b t
theorem zYm{o:Op}(ho:o.ok n)(h:∀a,a<n->∀b,b<n->dot C P Q a b=idf a b):∀a,a<n->∀b,b<n->dot C (o.f P) (o.d Q) a b=idf a b:=by
 intro a ha b hb;cases o with
 | add i j k=>
  obtain⟨hi,hj,hij⟩:=ho;have e:dot C (zCm P i j k) (zCm Q j i (-k)) a b=dot C P Q a b+(if a=i then k*dot C P Q j b else 0)+(if b=j then(-k)*dot C P Q a i+(if a=i then(-k)*(k*dot C P Q j i)else 0)else 0):=by
   unfold dot zCm;by_cases e1:a=i
   ·subst e1
    by_cases e2:b=j
    ·subst e2
     simp only[if_true];rw[<-yX,<-yX,<-yX,<-yX,<-zBQ,<-zBQ,<-zBQ];refine zF fun t ht=>?_
     generalize P a t=p;generalize P b t=q;generalize Q a t=r;generalize Q b t=s;grind
    simp only[if_true,if_neg e2];rw[<-yX,<-zBQ,yY];refine zF fun t ht=>?_
    rw[zA2,qK]
   by_cases e2:b=j
   ·subst e2
    simp only[if_true,if_neg e1];rw[<-yX,yY,yY,<-zBQ];refine zF fun t ht=>?_
    rw[zCb,jU]
   simp only[if_neg e1,if_neg e2];rw[yY,yY]
  show dot C (zCm P i j k) (zCm Q j i (-k)) a b=_;rw[e,h a ha b hb,h j hj b hb,h a ha i hi,h j hj i hi];unfold idf;have hji:¬ j=i:=fun h=>hij h.symm
  by_cases e1:a=i
  ·by_cases e2:b=j
   ·subst e1
    subst e2;simp[hij,hji];omega
   have e3:¬ j=b:=fun h=>e2 h.symm
   subst e1;simp[e2,e3]
  by_cases e2:b=j
  ·subst e2
   simp[e1]
  simp[e1,e2]
 |swap i j=>
  show dot C P Q (swp i j a) (swp i j b)=_;rw[h _ (zPt ho.1 ho.2 ha) _ (zPt ho.1 ho.2 hb)];unfold idf swp;split<;>split<;>(try split)<;>(try split)<;>(try split)<;>(try split)<;>first|rfl|omega
 | neg i=>
  have e:dot C (zDV P i) (zDV Q i) a b=(if a=i then-1 else 1)*((if b=i then-1 else 1)*dot C P Q a b):=by
   unfold dot zDV;rw[<-yX,<-yX];refine zF fun t ht=>?_
   generalize P a t=p;generalize Q b t=q;split<;>split<;>grind
  show dot C (zDV P i) (zDV Q i) a b=_;rw[e,h a ha b hb];unfold idf;split<;>split<;>split<;>omega
theorem zJl{l:List Op}(hl:jS n l):∀{P Q:Nat->Nat->Int},(∀a,a<n->∀b,b<n->dot C P Q a b=idf a b)->∀a,a<n->∀b,b<n->dot C (zBI l P) (zNb l Q) a b=idf a b:=by
 induction l with
 |nil=>intro P Q h;exact h
 |cons o l ih=>
  intro P Q h;exact ih (fun p hp=>hl p (qM _ hp)) (zYm (hl o (zAP ..)) h)
def cod(n:Nat)(Q P:Nat->Nat->Int)(a b:Nat):Int:=zT n fun t=>Q t a*P t b
theorem zJy{f g:Nat->Int}{d:Int}(hi:i<n)(hj:j<n)(hij:i≠j)(h:∀t,t<n->t≠i->t≠j->f t=g t)(h1:f i=g i+d)(h2:f j=g j-d):zT n f=zT n g:=by
 have e:zT n (fun t=>f t-g t)=0:=by
  have:∀m,m<=n->zT m (fun t=>f t-g t)=(if i<m then d else 0)-(if j<m then d else 0):=by
   intro m;induction m with
   |zero=>intro _;rfl
   | succ m ih=>
    intro hm;show zT m _+(f m-g m)=_;rw[ih oM];by_cases e1:m=i
    ·subst e1
     rw[h1];split<;>split<;>split<;>(try split)<;>omega
    by_cases e2:m=j
    ·subst e2
     rw[h2];split<;>split<;>split<;>(try split)<;>omega
    rw[h m oM e1 e2];split<;>split<;>split<;>(try split)<;>omega
  rw[this n (xgf _),if_pos hi,if_pos hj];omega
 have e2:zT n f=zT n g+zT n (fun t=>f t-g t):=by
  rw[<-zBQ];exact zF fun t ht=>oM
 omega
theorem zXk(hi:i<n)(hj:j<n)(f:Nat->Int):zT n (fun t=>f (swp i j t))=zT n f:=by
 by_cases hij:i=j
 ·subst hij
  refine zF fun t ht=>?_
  unfold swp;split<;>(try split)<;>simp_all
 refine zJy (d:=f j-f i) hi hj hij (fun t ht h1 h2=>?_) ?_ ?_;unfold swp;rw[if_neg h1,if_neg h2];unfold swp;rw[if_pos rfl];omega;unfold swp;rw[if_neg oM,if_pos rfl];omega
theorem zYl{o:Op}(ho:o.ok n)(a b:Nat):cod n (o.d Q) (o.f P) a b=cod n Q P a b:=by
 cases o with
 | add i j k=>
  obtain⟨hi,hj,hij⟩:=ho;refine zJy (i:=i) (j:=j) (d:=k*(Q i a*P j b)) hi hj hij (fun t ht h1 h2=>?_) ?_ ?_;simp only[Op.d,Op.f,zCm,if_neg h1,if_neg h2]
  ·simp only[Op.d,Op.f,zCm,if_true,if_neg hij]
   rw[zCb,jU]
  simp only[Op.d,Op.f,zCm,if_true,if_neg (fun h=>hij (Eq.symm h))];rw[zA2,qK,yA];rfl
 |swap i j=>exact zXk ho.1 ho.2 fun t=>Q t a*P t b
 |neg i=>
  refine zF fun t ht=>?_
  simp only[Op.d,Op.f,zDV];split;rw[Int.neg_mul_neg];rfl
theorem zOS{l:List Op}(hl:jS n l):∀{P Q:Nat->Nat->Int} (a b:Nat),cod n (zNb l Q) (zBI l P) a b=cod n Q P a b:=by
 induction l with
 |nil=>intro P Q a b;rfl
 |cons o l ih=>
  intro P Q a b;show cod n (zNb l (o.d Q)) (zBI l (o.f P)) a b=_;rw[ih (fun p hp=>hl p (qM _ hp)),zYl (hl o (zAP ..))]
theorem zEv{l:List Op}(hl:jS n l)(F:Nat->Nat->Int):∀a,a<n->∀b,F a b=zT n fun t=>zNb l idf t a*zBI l F t b:=by
 intro a ha b;have h1:=zOS (P:=F) (Q:=idf) hl a b;unfold cod at h1;rw[h1,zAB (c:=a) ha];unfold idf;rw[if_pos rfl,jX];intro t ht hne;unfold idf;rw[if_neg hne,zX]
def Bst.mix(x:Bst)(i j:Nat)(a b c d:Int):Bst:=⟨jE x.s i j a b c d,jE x.t i j a b c d,jE x.i i j d (-c) (-b) a⟩
theorem zKR(F:Nat->Nat->Int)(hij:i≠j)(a b c d q:Int):
  zCm (zDV (zHy (jE F i j (-c) (-d) (a-q*c) (b-q*d)) i j) j) i j q=jE F i j a b c d:=by
 funext r t
 have hji:j≠i:=qD hij;have s1:swp i j i=j:=by unfold swp;rw[if_pos rfl]
 have s2:swp i j j=i:=by unfold swp;rw[if_neg hji,if_pos rfl]
 have b1:∀p q' r' s',jE F i j p q' r' s' i t=p*F i t+q'*F j t:=fun p q' r' s'=>by unfold jE;rw[if_pos rfl]
 have b2:∀p q' r' s',jE F i j p q' r' s' j t=r'*F i t+s'*F j t:=fun p q' r' s'=>by unfold jE;rw[if_neg hji,if_pos rfl]
 have v1:zDV (zHy (jE F i j (-c) (-d) (a-q*c) (b-q*d)) i j) j i t=(a-q*c)*F i t+(b-q*d)*F j t:=by
  unfold zDV zHy;rw[if_neg hij,s1,b2]
 have v2:zDV (zHy (jE F i j (-c) (-d) (a-q*c) (b-q*d)) i j) j j t=-((-c)*F i t+(-d)*F j t):=by
  unfold zDV zHy;rw[if_pos rfl,s2,b1]
 by_cases h1:r=i
 ·subst h1
  rw[b1];unfold zCm;rw[if_pos rfl,v1,v2];simp only[Int.sub_mul,Int.neg_mul,Int.mul_add,Int.mul_neg,Int.neg_add,Int.neg_neg,<-Int.mul_assoc];omega
 unfold zCm;rw[if_neg h1];by_cases h2:r=j
 ·subst h2
  rw[v2,b2];simp only[Int.neg_mul,Int.neg_add,Int.neg_neg]
 unfold zDV zHy jE swp;rw[if_neg h2,if_neg h1,if_neg h2,if_neg h1,if_neg h2,if_neg h1,if_neg h2]
theorem zNm(F:Nat->Nat->Int)(hij:i≠j)(a b c d q:Int):
  zCm (zDV (zHy (jE F i j (b-q*d) (-(a-q*c)) d (-c)) i j) j) j i (-q)=jE F i j d (-c) (-b) a:=by
 funext r t
 have hji:j≠i:=qD hij;have s1:swp i j i=j:=by unfold swp;rw[if_pos rfl]
 have s2:swp i j j=i:=by unfold swp;rw[if_neg hji,if_pos rfl]
 have b1:∀p q' r' s',jE F i j p q' r' s' i t=p*F i t+q'*F j t:=fun p q' r' s'=>by unfold jE;rw[if_pos rfl]
 have b2:∀p q' r' s',jE F i j p q' r' s' j t=r'*F i t+s'*F j t:=fun p q' r' s'=>by unfold jE;rw[if_neg hji,if_pos rfl]
 have v1:zDV (zHy (jE F i j (b-q*d) (-(a-q*c)) d (-c)) i j) j i t=d*F i t+(-c)*F j t:=by
  unfold zDV zHy;rw[if_neg hij,s1,b2]
 have v2:zDV (zHy (jE F i j (b-q*d) (-(a-q*c)) d (-c)) i j) j j t=-((b-q*d)*F i t+(-(a-q*c))*F j t):=by
  unfold zDV zHy;rw[if_pos rfl,s2,b1]
 by_cases h1:r=j
 ·subst h1
  rw[b2];unfold zCm;rw[if_pos rfl,v1,v2];simp only[Int.sub_mul,Int.neg_mul,Int.mul_add,Int.mul_neg,Int.neg_add,Int.neg_neg,Int.neg_sub,<-Int.mul_assoc];omega
 unfold zCm;rw[if_neg h1];by_cases h2:r=i
 ·subst h2
  rw[v1,b1]
 unfold zDV zHy jE swp;rw[if_neg h1,if_neg h2,if_neg h1,if_neg h2,if_neg h1,if_neg h2,if_neg h1]
theorem zO4(F:Nat->Nat->Int)(hij:i≠j)(b:Int):zCm F i j b=jE F i j 1 b 0 1:=by
 funext r t
 unfold zCm jE;by_cases h1:r=i
 ·rw[if_pos h1,if_pos h1,jX]
 rw[if_neg h1,if_neg h1];by_cases h2:r=j
 ·rw[if_pos h2,h2];omega
 rw[if_neg h2]
theorem zRt(F:Nat->Nat->Int)(hij:i≠j)(b:Int):zCm F j i (-b)=jE F i j 1 (-0) (-b) 1:=by
 funext r t
 unfold zCm jE;by_cases h1:r=j
 ·subst h1
  rw[if_pos rfl,if_neg (qD hij),if_pos rfl];omega
 rw[if_neg h1];by_cases h2:r=i
 ·rw[if_pos h2,h2];omega
 rw[if_neg h2,if_neg h1]
theorem zMM(F:Nat->Nat->Int)(hij:i≠j)(b:Int):zCm (zDV (zDV F i) j) i j (-b)=jE F i j (-1) b 0 (-1):=by
 funext r t
 have hji:=qD hij;unfold zCm zDV jE;by_cases h1:r=i
 ·subst h1
  rw[if_pos rfl,if_neg hij,if_pos rfl,if_pos rfl,if_neg hji,if_pos rfl,yA,zC6,zBp,yA,jX]
 rw[if_neg h1,if_neg h1];by_cases h2:r=j
 ·subst h2
  rw[if_pos rfl,if_neg hji,if_pos rfl];omega
 rw[if_neg h2,if_neg h1,if_neg h2]
theorem zP5(F:Nat->Nat->Int)(hij:i≠j)(b:Int):zCm (zDV (zDV F i) j) j i (-(-b))=jE F i j (-1) (-0) (-b) (-1):=by
 funext r t
 have hji:=qD hij;unfold zCm zDV jE;by_cases h1:r=j
 ·subst h1
  rw[if_pos rfl,if_pos rfl,if_neg hji,if_neg hij,if_pos rfl,if_neg hji,if_pos rfl,zBp,zC6,yA,yA,jX];omega
 rw[if_neg h1,if_neg h1];by_cases h2:r=i
 ·subst h2
  rw[if_pos rfl,if_pos rfl];omega
 rw[if_neg h2,if_neg h2,if_neg h1]
theorem zXP(hi:i<n)(hj:j<n)(hij:i≠j):∀(m:Nat) (a b c d:Int),c.natAbs=m->a*d-b*c=1->∃l,jS n l/\∀x:Bst,x.mix i j a b c d=zCO l x:=by
 intro m;induction m using Nat.strongRecOn with
 | ind m ih=>
  intro a b c d hm hdet;by_cases hc:c=0
  ·subst hc
   have had:a*d=1:=by rw[zP]at hdet;omega
   have ha1:a.natAbs=1:=by
    have h1:=congrArg Int.natAbs had;rw[qV]at h1;exact Nat.eq_one_of_mul_eq_one_right h1
   have hsg:(a=1/\d=1)∨(a=-1/\d=-1):=by
    rcases(by omega:a=1∨a=-1)with e|e
    subst e;exact .inl ⟨rfl,oM⟩;subst e;exact .inr ⟨rfl,oM⟩
   rcases hsg with⟨rfl,rfl⟩|⟨rfl,rfl⟩
   ·refine⟨[.add i j b],jS.cons ⟨hi,hj,hij⟩ jS.nil,fun x=>?_⟩
    show(⟨_,_,_⟩:Bst)=⟨zCm x.s i j b,zCm x.t i j b,zCm x.i j i (-b)⟩;rw[zO4 x.s hij,zO4 x.t hij,zRt x.i hij]
   refine⟨[.neg i,.neg j,.add i j (-b)],jS.cons hi (jS.cons hj (jS.cons ⟨hi,hj,hij⟩ jS.nil)),fun x=>?_⟩;show(⟨_,_,_⟩:Bst)=⟨zCm (zDV (zDV x.s i) j) i j (-b),zCm (zDV (zDV x.t i) j) i j (-b),zCm (zDV (zDV x.i i) j) j i (-(-b))⟩;rw[zMM x.s hij,zMM x.t hij,zP5 x.i hij]
  have h1:a-a/c*c=a%c:=by have:=Int.emod_add_mul_ediv a c;rw[qH]at this;omega
  have h2:=zAy a hc;have h3:=Int.emod_lt a hc;obtain⟨q,hq⟩:∃q,a/c=q:=⟨_,rfl⟩;rw[hq]at h1;have hd:-c*(b-q*d)- -d*(a-q*c)=1:=by
   have e1:-c*(b-q*d)=-(b*c)+q*c*d:=by rw[Int.mul_sub,yA,yA,qH c b,<-qK,qH c q];omega
   have e2:-d*(a-q*c)=-(a*d)+q*c*d:=by rw[Int.mul_sub,yA,yA,qH d a,qH d (q*c)];omega
   rw[e1,e2];omega
  obtain⟨l,hl,e⟩:=ih (a-q*c).natAbs oM (-c) (-d) (a-q*c) (b-q*d) rfl hd;refine⟨l++ [.swap i j,.neg j,.add i j q],hl.app (jS.cons (o:=.swap i j) ⟨hi,hj⟩ (jS.cons (o:=.neg j) hj (jS.cons (o:=.add i j q) ⟨hi,hj,hij⟩ jS.nil))),fun x=>?_⟩;rw[zDk,<-e x];show(⟨_,_,_⟩:Bst)=⟨zCm (zDV (zHy (jE x.s i j (-c) (-d) (a-q*c) (b-q*d)) i j) j) i j q,zCm (zDV (zHy (jE x.t i j (-c) (-d) (a-q*c) (b-q*d)) i j) j) i j q,zCm (zDV (zHy (jE x.i i j (b-q*d) (-(a-q*c)) (-(-d)) (-c)) i j) j) j i (-q)⟩;rw[zKR x.s hij,zKR x.t hij,zBp,zNm x.i hij]
theorem zOF{c:Nat}(hc:c<C)(h:F i c≠0)(hz:∀t,t<c->F i t=0):lead C F i=(c:Int):=by
 rcases zCY C F i with⟨-,h2⟩|⟨j,h1,h2,h3,h4⟩
 exact absurd (h2 c hc) h;rcases yK j c with h5|h5|h5
 exact absurd (hz j h5) h3;rw[h1,h5];exact absurd (h4 c h5) h
theorem zGY(hz:∀t,t<C->F i t=0):lead C F i=-1:=by
 rcases zCY C F i with⟨h1,-⟩|⟨j,h1,h2,h3,h4⟩
 exact h1;exact absurd (hz j h2) h3
theorem zHg(h:lead C F i<0):∀t,t<C->F i t=0:=by
 rcases zCY C F i with⟨-,h1⟩|⟨j,h1,-⟩
 exact h1;omega
theorem zQa(h:∀t,t<C->F i t=G j t):lead C F i=lead C G j:=by
 unfold lead;rw[qY h]
theorem zUW(L:Nat->Int)(c:Int):∀m k,k<=adv L c m k/\adv L c m k<=k+m/\(∀i,k<=i->i<adv L c m k->L i<c)/\(adv L c m k<k+m->¬ L (adv L c m k)<c):=by
 intro m;induction m with
 |zero=>intro k;exact⟨xgf _,xgf _,fun i h1 h2=>by unfold adv at h2;omega,fun h=>by unfold adv at h;omega⟩
 | succ m ih=>
  intro k;unfold adv;by_cases h:L k<c
  ·rw[if_pos h]
   obtain⟨h1,h2,h3,h4⟩:=ih (k+1);refine⟨oM,oM,fun i a b=>?_,fun hh=>h4 oM⟩;by_cases e:i=k
   ·rw[e];exact h
   exact h3 i oM b
  rw[if_neg h];exact⟨xgf _,oM,fun i a b=>oM,fun _=>h⟩
theorem zOy{c:Int}(h:0<m->¬ L k<c):adv L c m k=k:=by
 cases m with
 |zero=>rfl
 |succ m=>unfold adv;rw[if_neg (h oM)]
theorem zRl{c:Int}(hk:k<r)(h:L k<c):adv L c (r-k) k=adv L c (r-(k+1)) (k+1):=by
 obtain⟨m,hm⟩:∃m,r-k=m+1:=⟨r-k-1,oM⟩;rw[hm];have:r-(k+1)=m:=oM;rw[this];show(if L k<c then adv L c m (k+1)else k)=_;rw[if_pos h]
theorem zJz{B n Ct f c:Nat}{x:Bst}(h0:lead Cs x.s m=(c:Int))(h1:adv (lead Cs x.s) (lead Cs x.s m) (rank-k) k=k')(h2:k'<rank)(h3:lead Cs x.s k'=(c:Int))
  (hok:zFd B n Cs Ct x m k' (-(x.s m c/x.s k' c))):
  zBy B n Cs Ct m rank (f+1) k x=zBy B n Cs Ct m rank f k' (if x.s m c%x.s k' c=0 then zCO [.add m k' (-(x.s m c/x.s k' c))] x else zCO [.add m k' (-(x.s m c/x.s k' c)),.swap m k'] x):=by
 have hc:(lead Cs x.s m).toNat=c:=by rw[h0];rfl
 conv=>lhs;unfold zBy
 rw[h1,hc,if_neg oM,if_pos ⟨h2,by rw[h3,h0]⟩,if_pos hok];rfl
theorem zOq:∀{f k:Nat} {x:Bst} {r:Bst × Bool},zBy B n Cs Ct m rank f k x=some r->zBy B n Cs Ct m rank (f+1) k x=some r:=by
 intro f;induction f with
 |zero=>intro k x r h;cases h
 | succ f ih=>
  intro k x r h;unfold zBy at h ⊢
  split
  ·rename_i h1
   rw[if_pos h1]at h;exact h
  rename_i h1;rw[if_neg h1]at h;split
  ·rename_i h2
   rw[if_pos h2]at h;split
   ·rename_i h3
    rw[if_pos h3]at h;exact ih h
   rename_i h3;rw[if_neg h3]at h;exact h
  rename_i h2;rw[if_neg h2]at h;exact h
theorem zT4{f g:Nat}{x:Bst}{r:Bst × Bool}(h:zBy B n Cs Ct m rank f k x=some r)(hfg:f<=g):zBy B n Cs Ct m rank g k x=some r:=by
 obtain⟨d,rfl⟩:=zAc hfg;clear hfg;induction d with
 |zero=>exact h
 |succ d ih=>exact zOq ih
theorem eu1(hp:0<p):1+q<=(1+q)*(2*p*p):=zO _ (by
 have:=yC hp hp
 rw[zC];omega)
theorem eu2(hp:0<p)(ha:p<=a)(h:a=p*q+r):1+q<=2*a*p:=by
 have h1:q<=p*q:=qQ _ hp;have h2:2*a<=2*a*p:=zO _ hp;omega
theorem eu3(hr:r<=p):(1+q)*(2*p*r)<=(1+q)*(2*p*p):=zH _ (zH _ hr)
theorem eu4(hr:r<=p)(h:a=p*q+r):(1+q)*(2*p*r)<=2*a*p:=by
 have h1:q*r<=q*p:=zH _ hr;have h2:(1+q)*r<=a:=by
  rw[zZ,zAs,h,zN p];omega
 have h3:(1+q)*(2*p*r)=2*p*((1+q)*r):=by rw[Nat.mul_left_comm]
 have h4:2*a*p=2*p*a:=by rw[zC,zC,zN a]
 rw[h3,h4];exact zH _ h2
theorem zYQ{B c:Nat}(hk:k<rank)(hrm:rank<=m)(hmn:m<n)(hc:c<Cs):∀(p:Nat) (x:Bst) (M Gb:Nat),leB M n Cs Ct x->1<=M->0<p->x.s k c=(p:Int)->x.s m c≠0->
  (∀t,t<c->x.s k t=0)->(∀t,t<c->x.s m t=0)->((1+(x.s m c/(p:Int)).natAbs)*(2*p*p)<=Gb∨((p:Int)<=x.s m c/\2*(x.s m c).natAbs*p<=Gb))->M*Gb<B->
  ∃f0 l,(∀f,zBy B n Cs Ct m rank (f+f0) k x=zBy B n Cs Ct m rank f k (zCO l x))/\jS n l/\gro l<=Gb/\(∀a,a≠m->a≠k->∀b,zBI l x.s a b=x.s a b)∧
   (∀t,t<c->zBI l x.s k t=0)/\0<zBI l x.s k c/\zBI l x.s k c<=(p:Int)/\(∀t,t<=c->zBI l x.s m t=0):=by
 intro p;induction p using Nat.strongRecOn with
 |ind p ih=>
 intro x M Gb hM hM1 hp hkc hmc hzk hzm hG hMB;have hmk:m≠k:=oM;have hlm:lead Cs x.s m=(c:Int):=zOF hc hmc hzm;have hlk:lead Cs x.s k=(c:Int):=zOF hc oM hzk;have hadv:adv (lead Cs x.s) (lead Cs x.s m) (rank-k) k=k:=zOy fun _=>by rw[hlm,hlk];omega
 have hdm:=zAl (x.s m c) p;have hr0:=zAy (x.s m c) (b:=(p:Int)) oM;have hrp:=zBA (x.s m c) (b:=(p:Int)) oM;obtain⟨q,hq⟩:∃q,x.s m c/(p:Int)=q:=⟨_,rfl⟩;obtain⟨r,hr⟩:∃r:Nat,x.s m c%(p:Int)=(r:Int):=⟨(x.s m c%(p:Int)).toNat,oM⟩;rw[hq,hr]at hdm;rw[hr]at hrp;rw[hq]at hG;have hcase2:(p:Int)<=x.s m c->(x.s m c).natAbs=p*q.natAbs+r/\p<=(x.s m c).natAbs:=fun hpa=>by
  have hq0:0<=q:=by rw[<-hq];exact zCg oM oM
  have:((q.natAbs:Nat):Int)=q:=oM;refine⟨?_,oM⟩;have h5:((p*q.natAbs+r:Nat):Int)=x.s m c:=by rw[zAN,yS,this];exact hdm
  omega
 have hGq:1+q.natAbs<=Gb:=by
  rcases hG with h|⟨h1,h2⟩
  exact zB (eu1 hp) h;obtain⟨h3,h4⟩:=hcase2 h1;exact zB (eu2 hp h4 h3) h2
 have hGr:(1+q.natAbs)*(2*p*r)<=Gb:=by
  rcases hG with h|⟨h1,h2⟩
  exact zB (eu3 oM) h;obtain⟨h3,h4⟩:=hcase2 h1;exact zB (eu4 oM h3) h2
 have hqq:x.s m c/x.s k c=q:=by rw[hkc,hq]
 have hrr:x.s m c%x.s k c=(r:Int):=by rw[hkc,hr]
 have hok:zFd B n Cs Ct x m k (-(x.s m c/x.s k c)):=by
  rw[hqq];refine zI7 hM hmn oM hmk hM1 ?_;rw[zR];exact zK (zH _ hGq) hMB
 have hoa:(Op.add m k (-q)).ok n:=⟨hmn,oM,hmk⟩;have hga:(Op.add m k (-q)).g=1+q.natAbs:=by simp[Op.g]
 have hmr:∀t,(zCm x.s m k (-q)) m t=x.s m t+-q*x.s k t:=fun t=>by unfold zCm;rw[if_pos rfl]
 have hmc':x.s m c+-q*x.s k c=(r:Int):=by
  rw[hkc,yA,qH q];omega
 by_cases hr2:r=0
 ·refine⟨1,[.add m k (-q)],fun f=>?_,jS.cons hoa jS.nil,?_,?_,?_,?_,?_,?_⟩
  ·rw[zJz hlm hadv hk hlk hok,hqq,hrr,if_pos oM]
  ·show _*1<=_
   rw[zAr,hga];exact hGq
  ·intro a h1 h2 b
   show zCm x.s m k (-q) a b=_;unfold zCm;rw[if_neg h1]
  ·intro t ht
   show zCm x.s m k (-q) k t=_;unfold zCm;rw[if_neg (fun h=>hmk h.symm)];exact hzk t ht
  ·show 0<zCm x.s m k (-q) k c
   unfold zCm;rw[if_neg (fun h=>hmk h.symm),hkc];omega
  ·show zCm x.s m k (-q) k c<=_
   unfold zCm;rw[if_neg (fun h=>hmk h.symm),hkc];omega
  intro t ht;show zCm x.s m k (-q) m t=_;rw[hmr];rcases zG t c with h|h
  rw[hzk t h,hzm t h];omega;obtain rfl:t=c:=oM;rw[hmc',hr2];rfl
 have hos:(Op.swap m k).ok n:=⟨hmn,oM⟩;have hy:leB (M*(1+q.natAbs)) n Cs Ct (zCO [.add m k (-q),.swap m k] x):=by
  have:=zHK (jS.cons hoa (jS.cons hos jS.nil)) hM;rwa[show gro [Op.add m k (-q),Op.swap m k]=1+q.natAbs by simp[gro,Op.g]]at this
 have hk2:∀t,(zCO [.add m k (-q),.swap m k] x).s k t=x.s m t+-q*x.s k t:=fun t=>by
  show zCm x.s m k (-q) (swp m k k) t=_;rw[show swp m k k=m by unfold swp;rw[if_neg oM,if_pos rfl],hmr]
 have hm2:∀t,(zCO [.add m k (-q),.swap m k] x).s m t=x.s k t:=fun t=>by
  show zCm x.s m k (-q) (swp m k m) t=_;rw[show swp m k m=k by unfold swp;rw[if_pos rfl]];unfold zCm;rw[if_neg oM]
 have ho2:∀a,a≠m->a≠k->∀b,(zCO [.add m k (-q),.swap m k] x).s a b=x.s a b:=fun a h1 h2 b=>by
  show zCm x.s m k (-q) (swp m k a) b=_;rw[show swp m k a=a by unfold swp;rw[if_neg h1,if_neg h2]];unfold zCm;rw[if_neg h1]
 obtain⟨f0,l,e1,e2,e3,e4,e5,e6,e7,e8⟩:=ih r oM (zCO [.add m k (-q),.swap m k] x) (M*(1+q.natAbs)) (2*p*r) hy (yC hM1 oM) oM (by rw[hk2,hmc']) (by rw[hm2,hkc];omega)
  (fun t ht=>by rw[hk2,hzk t ht,hzm t ht];omega) (fun t ht=>by rw[hm2,hzk t ht]) (.inr ⟨by rw[hm2,hkc];omega,by rw[hm2,hkc];exact xgf _⟩) (by rw[zC];exact zK (zH _ hGr) hMB)
 have es:(zCO [.add m k (-q),.swap m k] x).s=zBI [.add m k (-q),.swap m k] x.s:=zG0 _ _;have ef:zBI l (zCO [.add m k (-q),.swap m k] x).s=zBI ([.add m k (-q),.swap m k]++l) x.s:=by rw[zFf,es]
 rw[ef]at e4 e5 e6 e7 e8;refine⟨f0+1,[.add m k (-q),.swap m k]++l,fun f=>?_,(jS.cons hoa (jS.cons hos jS.nil)).app e2,?_,fun a h1 h2 b=>?_,e5,e6,oM,e8⟩
 ·have:=zJz (f:=f+f0) hlm hadv hk hlk hok
  rw[hqq,hrr,if_neg oM]at this;rw[<-zED,this,e1,zDk]
 ·rw[zHH]
  refine zB (zH _ e3) ?_;rw[show gro [Op.add m k (-q),Op.swap m k]=1+q.natAbs by simp[gro,Op.g]];exact hGr
 rw[e4 a h1 h2 b,ho2 a h1 h2 b]
structure Ech(C r:Nat)(c:Nat->Nat)(F:Nat->Nat->Int):Prop where
 lt:∀k,k<r->c k<C
 pos:∀k,k<r->0<F k (c k)
 zero:∀k,k<r->∀t,t<c k->F k t=0
 inc:∀k l,k<l->l<r->c k<c l
theorem Ech.lead(h:Ech C r c F)(hk:k<r):lead C F k=(c k:Int):=zOF (h.lt k hk) (by have:=h.pos k hk;omega) (h.zero k hk)
def zEL(k:Nat):Nat->List Op
 |0=>[]
 |m+1=>.swap (k+m+1) (k+m)::zEL k m
def zM8(k m a:Nat):Nat:=if a=k then k+m else if k<a/\a<=k+m then a-1 else a
theorem zVX(k m:Nat):∀x,zWX k m x=zCO (zEL k m) x:=by
 induction m with
 |zero=>intro x;rfl
 |succ m ih=>intro x;exact ih _
theorem zVY(k m:Nat):∀(F:Nat->Nat->Int) (a b:Nat),zBI (zEL k m) F a b=F (zM8 k m a) b:=by
 induction m with
 |zero=>
  intro F a b;show F a b=_;congr 1;unfold zM8;split<;>(try split)<;>omega
 |succ m ih=>
  intro F a b;show zBI (zEL k m) (zHy F (k+m+1) (k+m)) a b=_;rw[ih];show F (swp (k+m+1) (k+m) (zM8 k m a)) b=_;congr 1;unfold zM8 swp;split<;>split<;>(try split)<;>(try split)<;>(try split)<;>(try split)<;>omega
theorem zTf(h:k+m<n):jS n (zEL k m):=by
 induction m with
 |zero=>exact jS.nil
 |succ m ih=>exact jS.cons ⟨oM,oM⟩ (ih oM)
theorem zQ4(k m:Nat):gro (zEL k m)=1:=by
 induction m with
 |zero=>rfl
 |succ m ih=>simp[zEL,gro,Op.g,ih]
theorem zJ0{f:Nat}{x:Bst}(hk:k<rank)(h:lead Cs x.s m<0∨lead Cs x.s k<lead Cs x.s m):zBy B n Cs Ct m rank f k x=zBy B n Cs Ct m rank f (k+1) x:=by
 cases f with
 |zero=>rfl
 |succ f=>
  unfold zBy;rcases h with h|h
  rw[if_pos h,if_pos h];rw[zRl hk h]
theorem zDM{Z b:Nat}(hZ:1<=Z)(h:a<=b):Z^a<=Z^b:=zQ hZ h
theorem zQK(hT:1<=T):2*T*((1+T)*(2*T*T))<=(2*T)^4:=by
 have h1:(1+T)*(2*T*T)<=(2*T)*(2*T*T):=zM _ oM;have h2:(2*T)*((2*T)*(2*T*T))<=(2*T)*((2*T)*(2*T*(2*T))):=zH _ (zH _ (zH _ oM));have h3:(2*T)^4=(2*T)*((2*T)*(2*T*(2*T))):=by
  simp[Nat.pow_succ,Nat.mul_assoc]
 rw[h3];exact zB (zH _ h1) h2
def zWl(Cs m rank:Nat)(F G:Nat->Nat->Int)(b:Bool)(c':Nat->Nat):Prop:=
 Ech Cs (if b then rank+1 else rank) c' G/\(∀a,(if b then rank+1 else rank)<=a->a<=m->∀t,t<Cs->G a t=0)/\∀a,m<a->∀t,G a t=F a t
theorem zPu{B n Ct k:Nat}{x:Bst}(hl:lead Cs x.s m<0)(hE:Ech Cs rank c x.s)(hz:∀a,rank<=a->a<m->∀t,t<Cs->x.s a t=0):
  zBy B n Cs Ct m rank 1 k x=some (zCO [] x,false)/\zWl Cs m rank x.s (zBI [] x.s) false c:=by
 refine⟨?_,hE,fun a h1 h2 t ht=>?_,fun a h t=>rfl⟩
 ·unfold zBy
  rw[if_pos hl];rfl
 rcases zG a m with h3|h3
 exact hz a h1 h3 t ht;obtain rfl:a=m:=oM;exact zHg hl t ht
theorem zPv{B Ct k k' c0:Nat}{x:Bst}{c:Nat->Nat}(hrm:rank<=m)(hmn:m<n)(hl:lead Cs x.s m=(c0:Int))(hc0:c0<Cs)(h0:x.s m c0≠0)(h0z:∀t,t<c0->x.s m t=0)
  (hE:Ech Cs rank c x.s) (hz:∀a,rank<=a->a<m->∀t,t<Cs->x.s a t=0) (ha:adv (lead Cs x.s) (lead Cs x.s m) (rank-k) k=k') (hk':k'<=rank) (hlow:∀i,i<k'->c i<c0) (hhigh:k'<rank->c0<c k'):
  ∃l,zBy B n Cs Ct m rank 1 k x=some (zCO l x,true)/\jS n l/\gro l=1/\zWl Cs m rank x.s (zBI l x.s) true (fun a=>if a<k' then c a else if a=k' then c0 else c (a-1)):=by
 have hcn:(lead Cs x.s m).toNat=c0:=by rw[hl];rfl
 have e1:zBy B n Cs Ct m rank 1 k x=some (zWX k' (rank-k') ((if x.s m c0<0 then x.neg m else x).swap m rank),true):=by
  unfold zBy;rw[ha,hcn,if_neg oM,if_neg];rintro⟨h1,h2⟩;rw[hE.lead h1,hl]at h2;have:=hhigh h1;omega
 obtain⟨ng,hng⟩:∃ng:List Op,ng=if x.s m c0<0 then [.neg m]else []:=⟨_,rfl⟩
 have e2:(if x.s m c0<0 then x.neg m else x)=zCO ng x:=by
  rw[hng];split<;>rfl
 have hnok:jS n ng:=by
  rw[hng];split;exact jS.cons hmn jS.nil;exact jS.nil
 have hngr:gro ng=1:=by rw[hng];split<;>rfl
 obtain⟨g,hg1,hg2⟩:∃g:Int,(g=1∨g=-1)/\(∀a t,zBI ng x.s a t=if a=m then g*x.s m t else x.s a t)/\0<g*x.s m c0:=by
  rw[hng];by_cases h:x.s m c0<0
  ·rw[if_pos h]
   refine⟨-1,.inr rfl,fun a t=>?_,oM⟩;show zDV x.s m a t=_;unfold zDV;by_cases e:a=m
   ·rw[if_pos e,if_pos e,e];omega
   rw[if_neg e,if_neg e]
  rw[if_neg h];refine⟨1,.inl rfl,fun a t=>?_,oM⟩;show x.s a t=_;by_cases e:a=m
  ·rw[if_pos e,e];omega
  rw[if_neg e]
 obtain⟨hg2,hg3⟩:=hg2;refine⟨ng++(.swap m rank::zEL k' (rank-k')),?_,hnok.app (jS.cons ⟨hmn,oM⟩ (zTf oM)),by simp[zHH,gro,hngr,zQ4,Op.g],?_⟩
 ·rw[e1,e2,zVX,zDk]
  rfl
 have hF:∀a t,zBI (ng++(.swap m rank::zEL k' (rank-k'))) x.s a t=if swp m rank (zM8 k' (rank-k') a)=m then g*x.s m t else x.s (swp m rank (zM8 k' (rank-k') a)) t:=by
  intro a t;rw[zFf];show zBI (zEL k' (rank-k')) (zHy (zBI ng x.s) m rank) a t=_;rw[zVY];show zBI ng x.s (swp m rank (zM8 k' (rank-k') a)) t=_;exact hg2 _ _
 have f1:∀a,a<k'->∀t,zBI (ng++(.swap m rank::zEL k' (rank-k'))) x.s a t=x.s a t:=fun a h t=>by
  have e:swp m rank (zM8 k' (rank-k') a)=a:=by unfold swp zM8;split<;>split<;>(try split)<;>(try split)<;>(try split)<;>omega
  rw[hF,e,if_neg oM]
 have f2:∀t,zBI (ng++(.swap m rank::zEL k' (rank-k'))) x.s k' t=g*x.s m t:=fun t=>by
  have e:swp m rank (zM8 k' (rank-k') k')=m:=by unfold swp zM8;split<;>(try split)<;>(try split)<;>omega
  rw[hF,e,if_pos rfl]
 have f3:∀a,k'<a->a<=rank->∀t,zBI (ng++(.swap m rank::zEL k' (rank-k'))) x.s a t=x.s (a-1) t:=fun a h h' t=>by
  have e:swp m rank (zM8 k' (rank-k') a)=a-1:=by unfold swp zM8;split<;>split<;>(try split)<;>(try split)<;>(try split)<;>omega
  rw[hF,e,if_neg oM]
 have f4:∀a,rank<a->a≠m->∀t,zBI (ng++(.swap m rank::zEL k' (rank-k'))) x.s a t=x.s a t:=fun a h h' t=>by
  have e:swp m rank (zM8 k' (rank-k') a)=a:=by unfold swp zM8;split<;>split<;>(try split)<;>(try split)<;>(try split)<;>omega
  rw[hF,e,if_neg oM]
 have f5:rank<m->∀t,zBI (ng++(.swap m rank::zEL k' (rank-k'))) x.s m t=x.s rank t:=fun h t=>by
  have e:swp m rank (zM8 k' (rank-k') m)=rank:=by unfold swp zM8;split<;>split<;>(try split)<;>(try split)<;>(try split)<;>omega
  rw[hF,e,if_neg oM]
 generalize zBI (ng++(.swap m rank::zEL k' (rank-k'))) x.s=G at f1 f2 f3 f4 f5;refine⟨⟨fun a h=>?_,fun a h=>?_,fun a h t ht=>?_,fun a b hab hb=>?_⟩,fun a h1 h2 t ht=>?_,fun a h t=>f4 a oM oM t⟩
 ·simp only[if_true]at h
  split;exact hE.lt a oM;split;exact hc0;exact hE.lt (a-1) oM
 ·simp only[if_true]at h
  rcases yK a k' with h1|h1|h1
  rw[if_pos h1,f1 a h1];exact hE.pos a oM;rw[if_neg oM,if_pos h1,h1,f2];exact hg3;rw[if_neg oM,if_neg oM,f3 a h1 oM];exact hE.pos (a-1) oM
 ·simp only[if_true]at h
  rcases yK a k' with h1|h1|h1
  ·rw[if_pos h1]at ht
   rw[f1 a h1];exact hE.zero a oM t ht
  ·rw[if_neg oM,if_pos h1]at ht
   rw[h1,f2,h0z t ht,zP]
  rw[if_neg oM,if_neg oM]at ht;rw[f3 a h1 oM];exact hE.zero (a-1) oM t ht
 ·simp only[if_true]at hb
  have hup:∀b,k'<b->b<rank+1->c0<c (b-1):=fun b h1 h2=>by
   rcases zG k' (b-1)with h3|h3
   ·have:=hE.inc k' (b-1) h3 oM
    have:=hhigh oM;omega
   obtain h4:b-1=k':=oM;rw[h4];exact hhigh oM
  rcases yK b k' with h1|h1|h1
  rw[if_pos oM,if_pos h1];exact hE.inc a b hab oM;rw[if_pos oM,if_neg oM,if_pos h1];exact hlow a oM;rw[if_neg (show ¬ b<k' by omega),if_neg (show ¬ b=k' by omega)];have hb2:=hup b h1 hb;rcases yK a k' with h2|h2|h2
  ·rw[if_pos h2]
   have:=hlow a h2;omega
  rw[if_neg oM,if_pos h2];exact hb2;rw[if_neg oM,if_neg oM];exact hE.inc _ _ oM oM
 simp only[if_true]at h1;by_cases e:a=m
 ·rw[e,f5 oM];exact hz rank (xgf _) oM t ht
 rw[f4 a oM e];exact hz a oM oM t ht
theorem zT5{B:Nat}(hrm:rank<=m)(hmn:m<n):∀(j k:Nat) (x:Bst) (M T:Nat) (c:Nat->Nat),rank<=k+j->k<=rank->leB M n Cs Ct x->leM T n Cs x.s->1<=T->1<=M->Ech Cs rank c x.s->
  (∀a,rank<=a->a<m->∀t,t<Cs->x.s a t=0)->(∀i,i<k->lead Cs x.s m<0∨lead Cs x.s i<lead Cs x.s m)->(∀G,2*T*G<=(2*T)^(4^j)->M*G<B)->
  ∃f l b c',zBy B n Cs Ct m rank f k x=some (zCO l x,b)/\jS n l/\2*T*gro l<=(2*T)^(4^j)/\zWl Cs m rank x.s (zBI l x.s) b c':=by
 intro j;induction j with
 | zero=>
  intro k x M T c hkj hkr hM hT hT1 hM1 hE hz hL hB;by_cases hl:lead Cs x.s m<0
  ·obtain⟨h1,h2⟩:=zPu (B:=B) (n:=n) (Ct:=Ct) (k:=k) hl hE hz
   exact⟨1,[],false,c,h1,jS.nil,by simp[gro],h2⟩
  obtain⟨c0,h1,h2,h3,h4⟩:=zHh hl;obtain rfl:k=rank:=oM;obtain⟨l,g1,g2,g3,g4⟩:=zPv (B:=B) (n:=n) (Ct:=Ct) (k:=k) (k':=k) hrm hmn h1 h2 h3 h4 hE hz (zOy fun h=>by omega) (xgf _) (fun i hi=>by
   have:=hL i hi;rw[hE.lead hi]at this;omega) (fun h=>by omega)
  exact⟨1,l,true,_,g1,g2,by rw[g3];simp,g4⟩
 | succ j ih=>
  intro k x M T c hkj hkr hM hT hT1 hM1 hE hz hL hB;by_cases hl:lead Cs x.s m<0
  ·obtain⟨h1,h2⟩:=zPu (B:=B) (n:=n) (Ct:=Ct) (k:=k) hl hE hz
   exact⟨1,[],false,c,h1,jS.nil,by rw[show gro []=1 from rfl,zAr];exact zBM (by have:=qR (n:=j+1) (show 0<4 by omega);omega) _,h2⟩
  obtain⟨c0,h1,h2,h3,h4⟩:=zHh hl;obtain⟨a1,a2,a3,a4⟩:=zUW (lead Cs x.s) (lead Cs x.s m) (rank-k) k;obtain⟨k',hk'⟩:∃k',adv (lead Cs x.s) (lead Cs x.s m) (rank-k) k=k':=⟨_,rfl⟩;rw[hk']at a1 a2 a3 a4;have hlow:∀i,i<k'->c i<c0:=fun i hi=>by
   rcases zG i k with h|h
   ·have:=hL i h
    rw[hE.lead (k:=i) oM]at this;omega
   have:=a3 i h hi;rw[hE.lead (k:=i) oM]at this;omega
  by_cases hcol:k'<rank/\c k'=c0
  ·obtain⟨hc1,hc2⟩:=hcol
   have hp:=hE.pos k' hc1;rw[hc2]at hp;obtain⟨p,hpp⟩:∃p:Nat,x.s k' c0=(p:Int):=⟨(x.s k' c0).toNat,oM⟩;have hTp:p<=T:=by
    have:=hT k' oM c0 h2;omega
   have hTa:(x.s m c0).natAbs<=T:=hT m hmn c0 h2;have hq:(x.s m c0/(p:Int)).natAbs<=T:=by
    refine zB ?_ hTa;have:(0:Int)<p:=oM;rcases zCn 0 (x.s m c0)with h|h
    ·have g1:=zCg h (show(0:Int)<=p by omega)
     have g2:=zDH (p:Int) h;omega
    have g1:x.s m c0/(p:Int)<=0:=zA9 h this;have g2:x.s m c0<=x.s m c0/(p:Int):=by
     rw[zB5 this];have:x.s m c0*(p:Int)<=x.s m c0*1:=zBT h oM;omega
    omega
   have hGb:(1+(x.s m c0/(p:Int)).natAbs)*(2*p*p)<=(1+T)*(2*T*T):=qO oM (qO oM hTp);have h4b:=zQK hT1;have hpow:(2*T)^4<=(2*T)^(4^(j+1)):=zDM oM (zB (show 4<=4^1 by omega) (zQ oM oM));obtain⟨f0,l1,e1,e2,e3,e4,e5,e6,e7,e8⟩:=zYQ (B:=B) (Ct:=Ct) hc1 hrm hmn h2 p x M ((1+T)*(2*T*T)) hM hM1 oM hpp h3 (fun t ht=>hE.zero k' hc1 t oM) h4 (.inl hGb) (hB _ (zB h4b hpow));obtain⟨y,hy⟩:∃y,zCO l1 x=y:=⟨_,rfl⟩;have hys:y.s=zBI l1 x.s:=by rw[<-hy,zG0]
   rw[<-hys]at e4 e5 e6 e7 e8;have hEy:Ech Cs rank c y.s:=by
    refine⟨hE.lt,fun i hi=>?_,fun i hi t ht=>?_,hE.inc⟩
    ·by_cases e:i=k'
     ·rw[e,hc2];exact e6
     rw[e4 i oM e];exact hE.pos i hi
    by_cases e:i=k'
    ·rw[e]at ht ⊢;exact e5 t oM
    rw[e4 i oM e];exact hE.zero i hi t ht
   have hg1:=zH5 l1;have hlm:lead Cs y.s m<0∨(c0:Int)<lead Cs y.s m:=by
    rcases zCY Cs y.s m with⟨g,-⟩|⟨c1,g1,g2,g3,-⟩
    left;omega;right;rcases zG c0 c1 with h|h
    omega;exact absurd (e8 c1 h) g3
   have hZ:2*(T*gro l1)<=(2*T)^4:=by
    refine zB ?_ h4b;rw[<-zC];exact zH _ e3
   have hexp:(2*(T*gro l1))^(4^j)<=(2*T)^(4^(j+1)):=by
    rw[qI 4 j,zN (4^j),jO (2*T) 4];exact yV hZ _
   obtain⟨f1,l2,b,c',g1,g2,g3,g4⟩:=ih (k'+1) y (M*gro l1) (T*gro l1) c oM oM (by rw[<-hy];exact zHK e2 hM) (by rw[hys];exact zDh e2 hT) (yC hT1 hg1) (yC hM1 hg1) hEy
    (fun a h h' t ht=>by rw[e4 a oM oM];exact hz a h h' t ht)
    (fun i hi=>by
     rcases hlm with h|h
     exact .inl h;right;rw[hEy.lead oM];by_cases e:i=k'
     ·rw[e,hc2];exact h
     have:=hlow i oM;omega)
    (fun G hG=>by
     rw[zC];refine hB _ (zB ?_ (zB hG hexp));rw[zC 2 (T*gro l1),zC 2 T,zC T];exact xgf _)
   have hsk:zBy B n Cs Ct m rank f1 k' y=zBy B n Cs Ct m rank f1 (k'+1) y:=zJ0 hc1 (hlm.imp id fun h=>by rw[hEy.lead hc1,hc2];exact h);have hk0:zBy B n Cs Ct m rank (f1+f0) k x=zBy B n Cs Ct m rank (f1+f0) k' x:=by
    clear hB ih e1 hexp g1 hsk;obtain⟨d,hd⟩:∃d,k'=k+d:=⟨k'-k,oM⟩;have:∀d',d'<=d->zBy B n Cs Ct m rank (f1+f0) k x=zBy B n Cs Ct m rank (f1+f0) (k+d') x:=by
     intro d';induction d' with
     |zero=>intro _;rfl
     |succ d' ihd=>
      intro hd';rw[ihd oM];exact zJ0 oM (.inr (a3 _ oM oM))
    rw[hd];exact this d (xgf _)
   refine⟨f1+f0,l1++l2,b,c',?_,e2.app g2,?_,?_⟩;rw[hk0,e1,hy,hsk,g1,zDk,hy]
   ·rw[zHH]
    refine zB ?_ (zB g3 hexp);rw[zC 2 (T*gro l1),zC 2 T,zC T];exact xgf _
   rw[zFf,<-hys];obtain⟨t1,t2,t3⟩:=g4;exact⟨t1,t2,fun a h t=>by rw[t3 a h,e4 a oM oM]⟩
  obtain⟨l,g1,g2,g3,g4⟩:=zPv (B:=B) (n:=n) (Ct:=Ct) (k:=k) (k':=k') hrm hmn h1 h2 h3 h4 hE hz hk' oM hlow (fun h=>by
   have h5:=a4 oM;rw[hE.lead h,h1]at h5;have:c k'≠c0:=fun e=>hcol ⟨h,e⟩
   omega)
  exact⟨1,l,true,_,g1,g2,by rw[g3,zAr];exact zBM (by have:=qR (n:=j+1) (show 0<4 by omega);omega) _,g4⟩
def zFr(P:Nat->Nat->Prop)(r:Nat)(c:Nat->Nat)(F:Nat->Nat->Int):Prop:=∀i j,i<j->j<r->P i j->0<=F i (c j)/\F i (c j)<F j (c j)
theorem zTa{B:Nat}{cols:Nat->Int}(hrn:rank<=n)(hi:i<rank)(hcols:∀k,k<rank->cols k=(c k:Int)):∀(m j:Nat) (x:Bst) (M T:Nat),j+m=rank->i<j->leB M n Cs Ct x->leM T n Cs x.s->1<=T->1<=M->Ech Cs rank c x.s->
  (∀j',i<j'->j'<j->0<=x.s i (c j')/\x.s i (c j')<x.s j' (c j'))->(∀G,2*T*G<=(2*T)^(2^m)->M*G<B)->
  ∃l,zVU B n Cs Ct cols i m j x=some (zCO l x)/\jS n l/\2*T*gro l<=(2*T)^(2^m)/\Ech Cs rank c (zBI l x.s)/\(∀a,a≠i->∀t,zBI l x.s a t=x.s a t)∧
   (∀j',i<j'->j'<rank->0<=zBI l x.s i (c j')/\zBI l x.s i (c j')<zBI l x.s j' (c j')):=by
 intro m;induction m with
 |zero=>
  intro j x M T hj hij hM hT hT1 hM1 hE hR hB;exact⟨[],rfl,jS.nil,by simp[gro],hE,fun a _ t=>rfl,fun j' h1 h2=>hR j' h1 oM⟩
 | succ m ih=>
  intro j x M T hj hij hM hT hT1 hM1 hE hR hB;have hjr:j<rank:=oM;have hcj:(cols j).toNat=c j:=by rw[hcols j hjr];rfl
  have hp:=hE.pos j hjr;have hZ1:1<=2*T:=oM;have hexp0:(2*T)^(2^m)<=(2*T)^(2^(m+1)):=zDM hZ1 (zQ oM oM);have hskip:(0<=x.s i (c j)/\x.s i (c j)<x.s j (c j))->∃l,zVU B n Cs Ct cols i m (j+1) x=some (zCO l x)/\jS n l/\2*T*gro l<=(2*T)^(2^(m+1))/\Ech Cs rank c (zBI l x.s)/\(∀a,a≠i->∀t,zBI l x.s a t=x.s a t)∧
   (∀j',i<j'->j'<rank->0<=zBI l x.s i (c j')/\zBI l x.s i (c j')<zBI l x.s j' (c j')):=fun hin=>by
   obtain⟨l,g1,g2,g3,g4⟩:=ih (j+1) x M T oM oM hM hT hT1 hM1 hE (fun j' h1 h2=>by
    by_cases e:j'=j
    ·rw[e];exact hin
    exact hR j' h1 oM) (fun G hG=>hB G (zB hG hexp0))
   exact⟨l,g1,g2,zB g3 hexp0,g4⟩
  unfold zVU;rw[if_neg (by rw[hcols j hjr];omega),hcj];by_cases h0:x.s i (c j)=0
  ·rw[if_pos h0]
   exact hskip oM
  rw[if_neg h0,if_neg oM];by_cases hq0:x.s i (c j)/x.s j (c j)=0
  ·rw[if_pos hq0]
   refine hskip ?_;have h1:=zAl (x.s i (c j)) (x.s j (c j));have h2:=zAy (x.s i (c j)) (b:=x.s j (c j)) oM;have h3:=zBA (x.s i (c j)) hp;rw[hq0,zP]at h1;omega
  rw[if_neg hq0];obtain⟨q,hq⟩:∃q,x.s i (c j)/x.s j (c j)=q:=⟨_,rfl⟩;rw[hq];have hqT:q.natAbs<=T:=by
   refine zB ?_ (hT i oM (c j) (hE.lt j hjr));rw[<-hq];rcases zCn 0 (x.s i (c j))with h|h
   ·have g1:=zCg h (zBa hp)
    have g2:=zDH (x.s j (c j)) h;omega
   have g1:x.s i (c j)/x.s j (c j)<=0:=zA9 h hp;have g2:x.s i (c j)<=x.s i (c j)/x.s j (c j):=by
    rw[zB5 hp];have:x.s i (c j)*x.s j (c j)<=x.s i (c j)*1:=zBT h oM;omega
   omega
  have hb2:2*T*(1+q.natAbs)<=(2*T)^2:=by
   rw[Nat.pow_two];exact zH _ oM
  have hexp2:(2*T)^2<=(2*T)^(2^(m+1)):=zDM hZ1 (zB (show 2<=2^1 by omega) (zQ oM oM));have hok:zFd B n Cs Ct x i j (-q):=zI7 hM oM oM oM hM1 (by rw[zR];exact hB _ (zB hb2 hexp2));rw[if_pos hok];have hoa:(Op.add i j (-q)).ok n:=⟨oM,oM,oM⟩;have hga:gro [Op.add i j (-q)]=1+q.natAbs:=by simp[gro,Op.g]
  have hst:∀a t,(zCO [.add i j (-q)] x).s a t=if a=i then x.s i t+-q*x.s j t else x.s a t:=fun a t=>rfl
  have hdm:=zAl (x.s i (c j)) (x.s j (c j));have hm0:=zAy (x.s i (c j)) (b:=x.s j (c j)) oM;have hml:=zBA (x.s i (c j)) hp;rw[hq]at hdm;have hEy:Ech Cs rank c (zCO [.add i j (-q)] x).s:=by
   have hsm:∀t,t<=c i->x.s i t+-q*x.s j t=x.s i t:=fun t ht=>by
    rw[hE.zero j hjr t (by have:=hE.inc i j hij hjr;omega)];omega
   refine⟨hE.lt,fun a ha=>?_,fun a ha t ht=>?_,hE.inc⟩
   ·rw[hst]
    by_cases e:a=i
    ·rw[if_pos e,e,hsm _ (xgf _)];exact hE.pos i oM
    rw[if_neg e];exact hE.pos a ha
   rw[hst];by_cases e:a=i
   ·rw[e]at ht
    rw[if_pos e,hsm t oM];exact hE.zero i oM t ht
   rw[if_neg e];exact hE.zero a ha t ht
  have hexp:(2*(T*(1+q.natAbs)))^(2^m)<=(2*T)^(2^(m+1)):=by
   rw[qI 2 m,zN (2^m),jO (2*T) 2,<-zC];exact yV hb2 _
  obtain⟨l,g1,g2,g3,g4,g5,g6⟩:=ih (j+1) (zCO [.add i j (-q)] x) (M*(1+q.natAbs)) (T*(1+q.natAbs)) oM oM
   (by have:=zHK (jS.cons hoa jS.nil) hM;rwa[hga]at this)
   (by have:=zDh (jS.cons hoa jS.nil) hT;rwa[hga]at this) (yC hT1 oM) (yC hM1 oM) hEy
   (fun j' h1 h2=>by
    rw[hst,hst,if_pos rfl,if_neg oM];by_cases e:j'=j
    ·rw[e,yA,qH q]
     constructor<;>omega
    rw[hE.zero j hjr (c j') (hE.inc j' j oM hjr),zP,yY];exact hR j' h1 oM)
   (fun G hG=>by
    rw[zC];refine hB _ (zB ?_ (zB hG hexp));rw[zC 2 (T*_),zC 2 T,zC T];exact xgf _)
  have ef:∀l,zBI l (zCO [.add i j (-q)] x).s=zBI ([.add i j (-q)]++l) x.s:=fun l=>by rw[zFf];rfl
  rw[ef]at g4 g6;refine⟨[.add i j (-q)]++l,?_,(jS.cons hoa jS.nil).app g2,?_,g4,fun a ha t=>?_,g6⟩;rw[zDk];exact g1
  ·rw[zHH,hga]
   refine zB ?_ (zB g3 hexp);rw[zC 2 (T*_),zC 2 T,zC T];exact xgf _
  rw[<-ef,g5 a ha t,hst,if_neg ha]
def zLx(rank:Nat):Nat->Nat
 |0=>0
 |i+1=>(rank-(i+1))+zLx rank i
theorem zTZ{B:Nat}{cols:Nat->Int}(hrn:rank<=n)(hcols:∀k,k<rank->cols k=(c k:Int)):∀(i:Nat) (x:Bst) (M T:Nat),i<=rank->leB M n Cs Ct x->leM T n Cs x.s->1<=T->1<=M->Ech Cs rank c x.s->
  zFr (fun a _=>i<=a) rank c x.s->(∀G,2*T*G<=(2*T)^(2^zLx rank i)->M*G<B)->
  ∃l,zXy B n Cs Ct cols rank i x=some (zCO l x)/\jS n l/\2*T*gro l<=(2*T)^(2^zLx rank i)/\Ech Cs rank c (zBI l x.s)/\zFr (fun _ _=>True) rank c (zBI l x.s)/\(∀a,rank<=a->∀t,zBI l x.s a t=x.s a t):=by
 intro i;induction i with
 |zero=>
  intro x M T hi hM hT hT1 hM1 hE hR hB;exact⟨[],rfl,jS.nil,by simp[gro,zLx],hE,fun a b h1 h2 _=>hR a b h1 h2 (zE _),fun a _ t=>rfl⟩
 | succ i ih=>
  intro x M T hi hM hT hT1 hM1 hE hR hB;have hZ1:1<=2*T:=oM;have h2p:∀e,1<=2^e:=fun e=>qR oM
  have hsum:2^zLx rank (i+1)=2^(rank-(i+1))*2^zLx rank i:=by
   show 2^((rank-(i+1))+zLx rank i)=_;rw[yD]
  have hexp1:(2*T)^(2^(rank-(i+1)))<=(2*T)^(2^zLx rank (i+1)):=zDM hZ1 (by rw[hsum];exact zO _ (h2p _));obtain⟨l1,g1,g2,g3,g4,g5,g6⟩:=zTa (B:=B) (Ct:=Ct) (i:=i) hrn oM hcols (rank-(i+1)) (i+1) x M T oM oM hM hT hT1 hM1 hE (fun j' h1 h2=>by omega) (fun G hG=>hB G (zB hG hexp1));have hg:=zH5 l1;have hexp:(2*(T*gro l1))^(2^zLx rank i)<=(2*T)^(2^zLx rank (i+1)):=by
   rw[hsum,jO (2*T),<-zC];exact yV g3 _
  obtain⟨l2,k1,k2,k3,k4,k5,k6⟩:=ih (zCO l1 x) (M*gro l1) (T*gro l1) oM (zHK g2 hM) (by rw[zG0];exact zDh g2 hT) (yC hT1 hg) (yC hM1 hg) (by rw[zG0];exact g4)
   (fun a b h1 h2 h3=>by
    rw[zG0];by_cases e:a=i
    ·rw[e];exact g6 b oM h2
    rw[g5 a e,g5 b oM];exact hR a b h1 h2 oM)
   (fun G hG=>by
    rw[zC];refine hB _ (zB ?_ (zB hG hexp));rw[zC 2 (T*_),zC 2 T,zC T];exact xgf _)
  have ef:zBI l2 (zCO l1 x).s=zBI (l1++l2) x.s:=by rw[zFf,zG0]
  rw[ef]at k4 k5 k6;refine⟨l1++l2,?_,g2.app k2,?_,k4,k5,fun a ha t=>?_⟩
  ·unfold zXy
   rw[g1,zAE,k1,zDk]
  ·rw[zHH]
   refine zB ?_ (zB k3 hexp);rw[zC 2 (T*_),zC 2 T,zC T];exact xgf _
  rw[k6 a ha t,zG0,g5 a oM]
theorem zXc:∀m,m<6->∀r,r<=m+1->zLx r r<=m*(m+1)/2:=by decide
structure Hnf(C n r:Nat)(c:Nat->Nat)(F:Nat->Nat->Int):Prop where
 le:r<=n
 ech:Ech C r c F
 red:zFr (fun _ _=>True) r c F
 zero:∀a,r<=a->a<n->∀t,t<C->F a t=0
def ecE:Nat->Nat->Nat
 |0,_=>1
 |l+1,m=>4^m*2^(m*(m+1)/2)*ecE l (m+1)
theorem zSF(l:Nat):∀m,1<=ecE l m:=by
 induction l with
 |zero=>intro m;exact xgf _
 |succ l ih=>intro m;exact yC (yC (qR oM) (qR oM)) (ih _)
theorem zKX{B:Nat}(hn:n<=6):∀(l m rank:Nat) (x:Bst) (M T:Nat) (c:Nat->Nat),m+l=n->rank<=m->leB M n Cs Ct x->leM T n Cs x.s->1<=T->1<=M->Ech Cs rank c x.s->zFr (fun _ _=>True) rank c x.s->
  (∀a,rank<=a->a<m->∀t,t<Cs->x.s a t=0)->(∀G,2*T*G<=(2*T)^ecE l m->M*G<B)->
  ∃f ops r c',(∀g,f<=g->zQH B n Cs Ct g l m rank x=some (zCO ops x))/\jS n ops/\2*T*gro ops<=(2*T)^ecE l m/\Hnf Cs n r c' (zBI ops x.s):=by
 intro l;induction l with
 |zero=>
  intro m rank x M T c hml hrm hM hT hT1 hM1 hE hR hz hB;obtain rfl:m=n:=oM;exact⟨0,[],rank,c,fun g _=>rfl,jS.nil,by simp[gro,ecE],hrm,hE,hR,hz⟩
 | succ l ih=>
  intro m rank x M T c hml hrm hM hT hT1 hM1 hE hR hz hB;have hZ1:1<=2*T:=oM;have p4:∀e,1<=4^e:=fun e=>qR oM
  have p2:∀e,1<=2^e:=fun e=>qR oM
  have hE1:4^rank<=ecE (l+1) m:=by
   unfold ecE;exact zB (zQ oM hrm) (zB (zO _ (p2 _)) (zO _ (zSF _ _)))
  obtain⟨f1,l1,b,c1,g1,g2,g3,g4,g5,g6⟩:=zT5 (B:=B) (Ct:=Ct) hrm (show m<n by omega) rank 0 x M T c oM oM hM hT hT1 hM1 hE hz (fun i hi=>by omega) (fun G hG=>hB G (zB hG (zDM hZ1 hE1)));obtain⟨r1,hr1⟩:∃r1,(if b then rank+1 else rank)=r1:=⟨_,rfl⟩;rw[hr1]at g4 g5;have hr1m:r1<=m+1:=by rw[<-hr1];split<;>omega
  have hg1:=zH5 l1;have g3':2*(T*gro l1)<=(2*T)^(4^m):=by
   rw[<-zC];exact zB g3 (zDM hZ1 (zQ oM hrm))
  have hre:=zXc m oM r1 hr1m;have hexpR:(2*(T*gro l1))^(2^zLx r1 r1)<=(2*T)^(4^m*2^(m*(m+1)/2)):=by
   rw[jO];exact zB (yV g3' _) (zDM (qR oM) (zQ oM hre))
  have hE2:(2*T)^(4^m*2^(m*(m+1)/2))<=(2*T)^ecE (l+1) m:=zDM hZ1 (by unfold ecE;exact zO _ (zSF _ _));have hassoc:∀G,2*T*(gro l1*G)=2*(T*gro l1)*G:=fun G=>by
   rw[zC 2 (T*_),zC 2 T,zC T]
  have hs1:(zCO l1 x).s=zBI l1 x.s:=zG0 _ _;obtain⟨l2,k1,k2,k3,k4,k5,k6⟩:=zTZ (B:=B) (Ct:=Ct) (rank:=r1) (cols:=lead Cs (zCO l1 x).s) (c:=c1) (show r1<=n by omega) (fun k hk=>by rw[hs1];exact g4.lead hk) r1 (zCO l1 x) (M*gro l1) (T*gro l1) (xgf _) (zHK g2 hM) (by rw[hs1];exact zDh g2 hT) (yC hT1 hg1) (yC hM1 hg1) (by rw[hs1];exact g4)
   (fun a b h1 h2 h3=>by omega) (fun G hG=>by
    rw[zC];refine hB _ ?_;rw[hassoc];exact zB hG (zB hexpR hE2))
  have hg2:=zH5 l2;have ef:zBI l2 (zCO l1 x).s=zBI (l1++l2) x.s:=by rw[zFf,zG0]
  rw[ef]at k4 k5 k6;have hgg:gro (l1++l2)=gro l1*gro l2:=zHH _ _;have hok12:=g2.app k2;have hT2:2*(T*gro (l1++l2))<=(2*T)^(4^m*2^(m*(m+1)/2)):=by
   rw[hgg,<-zC,hassoc];exact zB k3 hexpR
  have hexpL:(2*(T*gro (l1++l2)))^ecE l (m+1)<=(2*T)^ecE (l+1) m:=by
   show _<=(2*T)^(4^m*2^(m*(m+1)/2)*ecE l (m+1));rw[jO];exact yV hT2 _
  have hassoc2:∀G,2*T*(gro (l1++l2)*G)=2*(T*gro (l1++l2))*G:=fun G=>by
   rw[zC 2 (T*_),zC 2 T,zC T]
  have hs2:(zCO (l1++l2) x).s=zBI (l1++l2) x.s:=zG0 _ _;obtain⟨f3,l3,r,c',q1,q2,q3,q4⟩:=ih (m+1) r1 (zCO (l1++l2) x) (M*gro (l1++l2)) (T*gro (l1++l2)) c1 oM hr1m (zHK hok12 hM) (by rw[hs2];exact zDh hok12 hT) (yC hT1 (zH5 _)) (yC hM1 (zH5 _)) (by rw[hs2];exact k4) (by rw[hs2];exact k5)
   (fun a h1 h2 t ht=>by rw[hs2,k6 a h1 t,hs1];exact g5 a h1 oM t ht)
   (fun G hG=>by
    rw[zC];refine hB _ ?_;rw[hassoc2];exact zB hG hexpL)
  refine⟨max f1 f3,(l1++l2)++l3,r,c',fun g hg=>?_,hok12.app q2,?_,?_⟩
  ·unfold zQH
   rw[zT4 g1 (show f1<=g by omega),zAE];dsimp only;rw[hr1];unfold zJs;rw[k1,zAE,<-zDk,q1 g oM,zDk (l1++l2) l3]
  ·rw[zHH,hassoc2]
   exact zB q3 hexpL
  rw[zFf,<-hs2];exact q4
def KE:Nat:=4194304
theorem zYM(hn:n<=4):ecE n 0<=KE:=by
 have:∀n,n<=4->ecE n 0<=4194304:=by decide
 exact this n hn
theorem zMd(hn:n<=4)(x:Bst)(M T:Nat)(hM:leB M n Cs Ct x)(hT:leM T n Cs x.s)(hT1:1<=T)(hM1:1<=M)(hB:∀G,2*T*G<=(2*T)^KE->M*G<B):
  ∃f ops r c',(∀g,f<=g->zZD B n Cs Ct g x=some (zCO ops x))/\jS n ops/\2*T*gro ops<=(2*T)^KE/\Hnf Cs n r c' (zBI ops x.s):=by
 have hp:(2*T)^ecE n 0<=(2*T)^KE:=zDM oM (zYM hn);obtain⟨f,ops,r,c',h1,h2,h3,h4⟩:=zKX (B:=B) (Ct:=Ct) (zB hn dE) n 0 0 x M T (fun _=>0) oM oM hM hT hT1 hM1 ⟨fun k hk=>oM,fun k hk=>oM,fun k hk=>oM,fun k l h1 h2=>oM⟩ (fun i j h1 h2=>by omega) (fun a h1 h2=>by omega) (fun G hG=>hB G (zB hG hp));exact⟨f,ops,r,c',h1,h2,zB h3 hp,h4⟩
theorem zHD{R:Nat}{F:Nat->Nat->Int}{c:Nat->Int}{v:Nat->Nat->Int}(h:i<k):
  det k (zDB F i fun a=>zT R fun t=>c t*v a t)=zT R fun t=>c t*det k (zDB F i fun a=>v a t):=by
 have:=zHE (k:=k) (R:=R) (F:=trp F) (i:=i) (c:=c) (v:=fun t a=>v a t) h;rw[<-zC5]at this;refine this.trans (zF fun t ht=>?_);rw[<-zC5];rfl
theorem zR7(k:Nat):det k idf=1:=by
 rw[zD6 (fun a _ b _ h=>by unfold idf;rw[if_neg oM])];induction k with
 |zero=>rfl
 |succ k ih=>unfold jB;rw[ih];simp[idf]
theorem zW4(hk:k<=4):zNz k<=24:=by
 have:∀k,k<=4->zNz k<=24:=by decide
 exact this k hk
theorem zO9(hk:k<=4)(h1:1<=h)(hF:∀a,a<k->∀b,b<k->(F a b).natAbs<=h):(det k F).natAbs<=24*h^4:=
 zB (zQA hF) (qO (zW4 hk) (zDM h1 hk))
theorem zPA{V:Nat->Nat->Int}(h:∀a,a<r->∀b,b<r->zT R (fun t=>P a t*V t b)=idf a b):∃σ:Nat->Nat,(∀a,a<r->σ a<R)/\det r (fun a b=>V (σ a) b)≠0:=by
 refine zL fun hn=>?_
 have h1:(0:Int)∣det r fun a b=>zT R fun t=>P a t*V t b:=zCs fun σ hσ=>by
  have:det r (fun a b=>V (σ a) b)=0:=zL fun h0=>hn ⟨σ,hσ,h0⟩
  rw[this];exact zAM 0
 rw[zAe (G:=idf) h,zR7]at h1;have:=Int.zero_dvd.1 h1;omega
theorem zKf{σ:Nat->Nat}(hr4:r<=4)(h1:1<=h)(hE:Ech C r c H)(hred:zFr (fun _ _=>True) r c H)(hA:leM h R C A)(hback2:∀a,a<R->∀b,b<C->A a b=zT r fun t=>X t a*H t b)
  (hσ:∀a,a<r->σ a<R) (hdet:det r (fun a b=>X b (σ a))≠0):leM (24*(8*h)^4) r C H:=by
 have hpivz:∀j,j<r->∀t,j<t->t<r->H t (c j)=0:=fun j hj t h2 h3=>hE.zero t h3 _ (hE.inc j t h2 h3)
 have hV:∀j,j<r->∀a,a<R->(X j a).natAbs<=h*2^j:=by
  intro j;induction j using Nat.strongRecOn with
  | ind j ih=>
   intro hj a ha;have e:=hback2 a ha (c j) (hE.lt j hj);have hp:=hE.pos j hj;rw[zDm (n:=j+1) oM (fun t h2 h3=>by rw[hpivz j hj t oM h3,zP])]at e;have hs:zT (j+1) (fun t=>X t a*H t (c j))=zT j (fun t=>X t a*H t (c j))+X j a*H j (c j):=rfl;rw[hs]at e;obtain⟨p,hpp⟩:∃p:Nat,H j (c j)=(p:Int):=⟨(H j (c j)).toNat,oM⟩;have hsum:∀m,m<=j->(zT m (fun t=>X t a*H t (c j))).natAbs<=(h*2^m-h)*p:=by
    intro m;induction m with
    |zero=>intro _;simp[zT]
    | succ m ihm=>
     intro hm;have g1:=ihm oM;have g2:=ih m oM oM a ha;have g3:=hred m j oM hj trivial;have g4:(H m (c j)).natAbs<=p:=oM;have g5:(X m a*H m (c j)).natAbs<=h*2^m*p:=by rw[qV];exact qO g2 g4
     have g6:(zT (m+1) (fun t=>X t a*H t (c j))).natAbs<=(zT m (fun t=>X t a*H t (c j))).natAbs+(X m a*H m (c j)).natAbs:=by
      show(zT m (fun t=>X t a*H t (c j))+X m a*H m (c j)).natAbs<=_;omega
     have g7:(h*2^m-h)*p+h*2^m*p=(h*2^(m+1)-h)*p:=by
      rw[<-zZ];congr 1;have:h<=h*2^m:=zO _ (qR oM);rw[qI,<-zC];omega
     omega
   have g1:=hsum j (xgf _);have g2:=hA a ha (c j) (hE.lt j hj);have g3:(X j a*H j (c j)).natAbs<=h+(h*2^j-h)*p:=oM;rw[qV,hpp,zAn]at g3;have g4:h<=h*p:=zO _ oM;have g5:h*p+(h*2^j-h)*p=h*2^j*p:=by
    rw[<-zZ];congr 1;have:h<=h*2^j:=zO _ (qR oM);omega
   have g6:(X j a).natAbs*p<=h*2^j*p:=oM;exact Nat.le_of_mul_le_mul_right g6 oM
 have hV8:∀j,j<r->∀a,a<R->(X j a).natAbs<=8*h:=fun j hj a ha=>by
  have g1:=hV j hj a ha;have g2:2^j<=2^3:=zQ oM oM;have g3:h*2^j<=h*2^3:=zH _ g2;omega
 intro i hir b hb;have e1:det r (zDB (fun a b=>X b (σ a)) i fun a=>A (σ a) b)=H i b*det r (fun a b=>X b (σ a)):=by
  have e2:det r (zDB (fun a b=>X b (σ a)) i fun a=>A (σ a) b)=det r (zDB (fun a b=>X b (σ a)) i fun a=>zT r fun t=>H t b*X t (σ a)):=zAe fun a ha b' hb'=>by
   unfold zDB;split
   ·dsimp only
    rw[hback2 _ (hσ a ha) b hb];exact zF fun t ht=>qH _ _
   rfl
  rw[e2,zHD (v:=fun a t=>X t (σ a)) hir,zAB (c:=i) hir];rw[zHw (fun a b=>X b (σ a)) i];intro t ht hne;have:det r (zDB (fun a b=>X b (σ a)) i fun a=>X t (σ a))=0:=by
   rcases zG t i with h2|h2
   exact zE6 h2 hir fun a=>by unfold zDB;rw[if_pos rfl,if_neg oM]
   exact zE6 (c:=i) (d:=t) oM ht fun a=>by unfold zDB;rw[if_pos rfl,if_neg oM]
  rw[this,zP]
 have e3:(det r (zDB (fun a b=>X b (σ a)) i fun a=>A (σ a) b)).natAbs<=24*(8*h)^4:=zO9 hr4 oM fun a ha b' hb'=>by
  unfold zDB;split
  ·have:=hA _ (hσ a ha) b hb
   dsimp only;omega
  exact hV8 b' hb' _ (hσ a ha)
 rw[e1,qV]at e3;exact zB (zO _ oM) e3
theorem zSU{U:Nat->Nat->Int}(hR:R<=4)(h1:1<=h)(hH:Hnf C R r c H)(hA:leM h R C A)(hback:∀a,a<R->∀b,b<C->A a b=zT R fun t=>X t a*H t b)
  (huv:∀a,a<R->∀b,b<R->dot R U X a b=idf a b):leM (24*(8*h)^4) R C H:=by
 obtain⟨σ,hσ,hdet⟩:=zPA (r:=r) (R:=R) (P:=U) (V:=fun t b=>X b t) (fun a ha b hb=>huv a (by have:=hH.le;omega) b (by have:=hH.le;omega));have hb:=zKf (zB hH.le hR) h1 hH.ech hH.red hA (fun a ha b hb=>by
  rw[hback a ha b hb];exact zDm hH.le fun t h2 h3=>by rw[hH.zero t h2 h3 b hb,zP]) hσ hdet
 intro i hi b hb';rcases zG i r with hir|hir
 exact hb i hir b hb';rw[hH.zero i hir hi b hb'];exact zE _
theorem zKg{r':Nat}{σ:Nat->Nat}(hH:Hnf m n r c H)(hback:∀a,a<n->∀b,b<m->F a b=zT n fun t=>X t a*H t b)(hcol:∀a,a<n->∀b,r'<=b->b<m->H a b=0)(hr':r'<=m)
  (hσ:∀a,a<r'->σ a<n) (hdet:det r' (fun a b=>F (σ a) b)≠0):r=r'/\∀k,k<r->c k=k:=by
 have hc:∀k,k<r->c k<r':=fun k hk=>by
  rcases zG (c k) r' with h|h
  exact h;have h1:=hcol k (by have:=hH.le;omega) (c k) h (hH.ech.lt k hk);have h2:=hH.ech.pos k hk;omega
 have hck:∀k,k<r->k<=c k:=by
  intro k;induction k with
  |zero=>intro _;omega
  |succ k ih=>
   intro hk;have h1:=ih oM;have h2:=hH.ech.inc k (k+1) oM hk;omega
 have hle:r<=r':=by
  rcases qN r with h|h
  omega;have h1:=hck (r-1) oM;have h2:=hc (r-1) oM;omega
 have hge:r'<=r:=by
  rcases zG r r' with h|h
  ·have h1:(0:Int)∣det r' fun a b=>zT n fun t=>X t (σ a)*H t b:=zCs (P:=fun a t=>X t (σ a)) (F:=H) fun τ hτ=>by
    refine zDQ (R:=n) (F:=H) (fun τ hτ hi=>?_) τ hτ;have h2:=hi.le (r'-1) oM;rw[zCN (c:=r'-1) oM fun b hb=>hH.zero _ oM (hτ _ oM) b oM];exact zAM 0
   rw[zAe (G:=fun a b=>F (σ a) b) fun a ha b hb=>(hback _ (hσ a ha) b oM).symm]at h1;exact absurd (Int.zero_dvd.1 h1) hdet
  exact h
 refine⟨oM,fun k hk=>?_⟩;have hup:∀d k,k+d+1=r->c k+d<r':=by
  intro d;induction d with
  |zero=>intro k hk;exact hc k oM
  |succ d ih=>
   intro k hk;have h1:=ih (k+1) oM;have h2:=hH.ech.inc k (k+1) oM oM;omega
 have h1:=hup (r-1-k) k oM;have h2:=hck k hk;omega
theorem zSV(hH:Hnf m n r (fun k=>k) H)(hback:∀a,a<n->∀b,b<m->F a b=zT n fun t=>X t a*H t b)(hj:j<=r)(hlow:∀a,a<j->∀b,b<j->a<b->F a b=0):
  jB j (fun i=>H i i)∣jB j (fun i=>F i i):=by
 have hrn:=hH.le;have hrm:r<=m:=by
  rcases qN r with h|h
  omega;have:=hH.ech.lt (r-1) oM;omega
 rw [<-zD6 hlow];have h1:jB j (fun i=>H i i)∣det j fun a b=>zT n fun t=>X t a*H t b:=zCs (P:=fun a t=>X t a) (F:=H) fun τ hτ=>by
  refine zDQ (R:=n) (F:=H) (fun τ hτ hi=>?_) τ hτ;rcases qN j with hj0|hj0
  subst hj0;exact zAM _;rcases zG (τ (j-1)) j with h|h
  ·have hid:∀d,d<j->τ (j-1-d)=j-1-d:=by
    intro d hd;have h2:=hi.le (j-1-d) oM;rcases qN d with h3|h3
    ·subst h3
     have:=hi.le (j-1) oM;simp only[Nat.sub_zero]at*;omega
    have:∀d,d<j->τ (j-1-d)+d<=τ (j-1):=by
     intro d;induction d with
     |zero=>intro _;simp
     |succ d ihd=>
      intro hd;have g1:=ihd oM;have g2:=hi (j-1-(d+1)) oM;rw[show j-1-(d+1)+1=j-1-d by omega]at g2;omega
    have:=this d hd;omega
   rw[zAe (G:=H) fun a ha b hb=>by
    have:=hid (j-1-a) oM;rw[show j-1-(j-1-a)=a by omega]at this;rw[this]]
   rw[zFz fun a ha b hb hab=>hH.ech.zero a oM b hab];exact zAM _
  rw[zCN (c:=j-1) oM fun b hb=>?_];exact zBr _;rcases zG (τ (j-1)) r with h2|h2
  exact hH.ech.zero _ h2 b oM;exact hH.zero _ h2 (hτ _ oM) b oM
 rwa[zAe (G:=F) fun a ha b hb=>(hback a oM b oM).symm]at h1
theorem zUv(hH:Hnf m n r (fun k=>k) H)(hback:∀a,a<n->∀b,b<m->F a b=zT n fun t=>X t a*H t b)(hlow:∀a,a<r->∀b,b<r->a<b->F a b=0)(hp:∀i,i<r->F i i=H i i)(hrm:r<=m):
  ∀i,i<r->∀b,b<r->i<b->H i b=0:=by
 have hrn:=hH.le;have hback2:∀a,a<n->∀b,b<m->F a b=zT r fun t=>X t a*H t b:=fun a ha b hb=>by
  rw[hback a ha b hb];refine zDm hH.le fun t h2 h3=>?_
  rw[hH.zero t h2 h3 b hb,zP]
 intro i;induction i using Nat.strongRecOn with
 | ind i ihi=>
  intro hi;have hpi:0<H i i:=hH.ech.pos i hi;have hone:X i i=1:=by
   have e:=hback2 i oM i oM;rw[zAB (c:=i) hi (fun t ht hne=>by
    rcases zG t i with h|h
    rw[ihi t h ht i hi h,zP];rw[hH.ech.zero t ht i (by show i<t;omega),zP]),hp i hi]at e
   have h2:(X i i-1)*H i i=0:=by rw[zDz,jX];omega
   rcases Int.mul_eq_zero.1 h2 with h|h<;>omega
  have key:∀b,b<r->i<b->H i b=0/\X b i=0:=by
   intro b;induction b using Nat.strongRecOn with
   | ind b ihb=>
    intro hb hib;have e:=hback2 i oM b oM;rw[hlow i hi b hb hib]at e;have hsplit:zT r (fun t=>X t i*H t b)=X i i*H i b+X b i*H b b:=by
     have g1:zT r (fun t=>X t i*H t b)=zT r (fun t=>(if t=i then X i i*H i b else 0)+(if t=b then X b i*H b b else 0)):=zF fun t ht=>by
      by_cases e1:t=i
      ·rw[if_pos e1,if_neg oM,e1];omega
      rw[if_neg e1];by_cases e2:t=b
      ·rw[if_pos e2,e2];omega
      rw[if_neg e2];rcases zG t b with h|h
      ·rcases zG t i with h3|h3
       ·rw[ihi t h3 ht b hb oM,zP];rfl
       rw[(ihb t h ht oM).2,zX];rfl
      rw[hH.ech.zero t ht b (by show b<t;omega),zP];rfl
     rw[g1,zBQ,zAB (c:=i) hi (fun t _ hne=>if_neg hne),zAB (c:=b) hb (fun t _ hne=>if_neg hne),if_pos rfl,if_pos rfl]
    rw[hsplit,hone,jX]at e;have hr:0<=H i b/\H i b<H b b:=hH.red i b hib hb trivial;have hX:X b i=0:=by
     rcases zAg (X b i) 0 with h|h|h
     ·have:X b i*H b b<=-1*H b b:=yM oM oM
      omega
     exact h;have:1*H b b<=X b i*H b b:=yM oM oM;omega
    rw[hX,zX]at e;exact⟨oM,hX⟩
  exact fun b hb hib=>(key b hb hib).1
theorem zPH{P Q P' Q':Nat->Nat->Int}(hr4:r<=4)(h1:1<=h)(hH:Hnf C R r (fun k=>k) H)(hcol:∀a,a<R->∀b,r<=b->b<C->H a b=0)(hA:leM h R C A)
  (hto:∀a,a<R->∀b,b<C->H a b=zT R fun s=>P a s*zT C fun t=>A s t*Q t b) (hfrom:∀a,a<R->∀b,b<C->A a b=zT R fun s=>P' a s*zT C fun t=>H s t*Q' t b):
  (jB r (fun i=>H i i)).natAbs<=24*h^4:=by
 have hrn:=hH.le;have hrC:r<=C:=by
  rcases qN r with h|h
  omega;have:=hH.ech.lt (r-1) oM;omega
 have hpos:0<jB r (fun i=>H i i):=zAI fun i hi=>hH.ech.pos i hi
 have hdH:det r H=jB r (fun i=>H i i):=zFz fun a ha b hb hab=>hH.ech.zero a ha b hab
 obtain⟨σ,τ,hσ,hτ,hne⟩:∃σ τ:Nat->Nat,(∀a,a<r->σ a<R)/\(∀a,a<r->τ a<C)/\det r (fun a b=>A (σ a) (τ b))≠0:=by
  refine zL fun hn=>?_
  have g1:(0:Int)∣det r fun a b=>zT R fun s=>P a s*zT C fun t=>A s t*Q t b:=zFy fun σ τ hσ hτ=>by
   have:det r (fun a b=>A (σ a) (τ b))=0:=zL fun h0=>hn ⟨σ,τ,hσ,hτ,h0⟩
   rw[this];exact zAM 0
  rw[zAe (G:=H) fun a ha b hb=>(hto a oM b oM).symm,hdH]at g1;have:=Int.zero_dvd.1 g1;omega
 have g2:jB r (fun i=>H i i)∣det r fun a b=>zT R fun s=>P' (σ a) s*zT C fun t=>H s t*Q' t (τ b):=zFy (P:=fun a s=>P' (σ a) s) (Q:=fun t b=>Q' t (τ b)) fun σ' τ' hσ' hτ'=>by
  refine zF2 (R:=R) (C:=C) (F:=H) (fun σ' τ' hσ' hτ' hi hi'=>?_) σ' τ' hσ' hτ';rcases qN r with hr0|hr0
  subst hr0;exact zAM _;have hid:∀τ:Nat->Nat,Inc r τ->τ (r-1)<r->∀a,a<r->τ a=a:=by
   intro τ hi hl a ha;have h2:=hi.le a ha;have:∀d,d<r->τ (r-1-d)+d<=τ (r-1):=by
    intro d;induction d with
    |zero=>intro _;simp
    |succ d ihd=>
     intro hd;have g1:=ihd oM;have g2:=hi (r-1-(d+1)) oM;rw[show r-1-(d+1)+1=r-1-d by omega]at g2;omega
   have:=this (r-1-a) oM;rw[show r-1-(r-1-a)=a by omega]at this;omega
  rcases zG (σ' (r-1)) r with h3|h3
  ·rcases zG (τ' (r-1)) r with h4|h4
   ·rw[zAe (G:=H) fun a ha b hb=>by rw[hid σ' hi h3 a ha,hid τ' hi' h4 b hb],hdH]
    exact zAM _
   rw[zIa (F:=fun a b=>H (σ' a) (τ' b)) (c:=r-1) oM fun a ha=>hcol _ (hσ' a ha) _ h4 (hτ' _ oM)];exact zBr _
  rw[zCN (c:=r-1) oM fun b hb=>hH.zero _ h3 (hσ' _ oM) _ (hτ' b hb)];exact zBr _
 rw[zAe (G:=fun a b=>A (σ a) (τ b)) fun a ha b hb=>(hfrom _ (hσ a ha) _ (hτ b hb)).symm]at g2;refine zB ?_ (zO9 (F:=fun a b=>A (σ a) (τ b)) hr4 h1 fun a ha b hb=>hA _ (hσ a ha) _ (hτ b hb));exact zDE oM (Int.natAbs_dvd_natAbs.2 g2)
theorem zOY{f:Nat->Int}(h:∀i,i<r->0<f i)(hi:i<r):f i<=jB r f:=by
 induction r with
 |zero=>omega
 | succ r ih=>
  have hp:0<jB r f:=zAI fun j hj=>h j oM
  have hl:=h r oM;unfold jB;by_cases e:i=r
  ·rw[e]
   have:1*f r<=jB r f*f r:=yM oM oM;omega
  have h1:=ih (fun j hj=>h j oM) oM;have:jB r f*1<=jB r f*f r:=zAX oM oM;omega
theorem zMj(hH:Hnf C R r (fun k=>k) H)(hcol:∀a,a<R->∀b,r<=b->b<C->H a b=0)(hT:(jB r (fun i=>H i i)).natAbs<=T):leM T R C H:=by
 intro a ha b hb;refine zB ?_ hT;have hpos:∀i,i<r->0<H i i:=fun i hi=>hH.ech.pos i hi
 rcases zG a r with h1|h1
 ·rcases zG b r with h2|h2
  ·have g:=zOY hpos h2
   rcases yK a b with h3|h3|h3
   ·have:0<=H a b/\H a b<H b b:=hH.red a b h3 h2 trivial
    omega
   ·subst h3
    have:=hpos a h1;omega
   rw[hH.ech.zero a h1 b h3];omega
  rw[hcol a ha b h2 hb];omega
 rw[hH.zero a h1 ha b hb];omega
structure Rel(R C:Nat)(A:Nat->Nat->Int)(z:W5):Prop where
 s:∀a,a<R->∀b,b<C->z.s a b=zT R fun s=>z.u a s*zT C fun t=>A s t*z.w b t
 uv:∀a,a<R->∀b,b<R->dot R z.u z.v a b=idf a b
 vu:∀a,a<R->∀b,b<R->cod R z.v z.u a b=idf a b
 wx:∀a,a<C->∀b,b<C->dot C z.w z.x a b=idf a b
 xw:∀a,a<C->∀b,b<C->cod C z.x z.w a b=idf a b
theorem zI2(a b:Nat):idf a b=idf b a:=by unfold idf;split<;>split<;>omega
theorem zIP(ha:a<n)(f:Nat->Int):zT n (fun t=>f t*idf t a)=f a:=by
 rw[zAB (c:=a) ha];unfold idf;rw[if_pos rfl,zAT];intro t ht hne;unfold idf;rw[if_neg hne,zP]
theorem zJS(n:Nat):∀a,a<n->∀b,b<n->dot n idf idf a b=idf a b:=fun a ha b hb=>by
 unfold dot;rw[zF (g:=fun t=>idf a t*idf t b) (fun t ht=>by rw[zI2 b t]),zIP hb]
theorem zR1(n:Nat):∀a,a<n->∀b,b<n->cod n idf idf a b=idf a b:=fun a ha b hb=>by
 unfold cod;rw[zF (g:=fun t=>idf a t*idf t b) (fun t ht=>by rw[zI2 t a]),zIP hb]
theorem Rel.start(R C:Nat)(A:Nat->Nat->Int):Rel R C A ⟨A,idf,idf,idf,idf⟩:=
 ⟨fun a ha b hb=>by
  show A a b=zT R fun s=>idf a s*zT C fun t=>A s t*idf b t
  rw[<-zLZ ha fun s=>zT C fun t=>A s t*idf b t,zF (g:=fun t=>A a t*idf t b) (fun t ht=>by rw[zI2 b t]),zIP hb],
 zJS R,zR1 R,zJS C,zR1 C⟩
theorem Rel.rows{z:W5}{l:List Op}(h:Rel R C A z)(hl:jS R l):Rel R C A ⟨zBI l z.s,zBI l z.u,zNb l z.v,z.w,z.x⟩:=
 ⟨fun a ha b hb=>zOT (b:=b) (G:=fun s b=>zT C fun t=>A s t*z.w b t) hl (fun a ha=>h.s a ha b hb) a ha,zJl hl h.uv,fun a ha b hb=>by
  show cod R (zNb l z.v) (zBI l z.u) a b=_;rw[zOS hl];exact h.vu a ha b hb,h.wx,h.xw⟩
theorem Rel.cols{z:W5}{l:List Op}(h:Rel R C A z)(hl:jS C l):Rel R C A ⟨trF (zBI l (trF z.s)),z.u,z.v,zBI l z.w,zNb l z.x⟩:=
 ⟨fun a ha b hb=>by
  have h1:∀b,b<C->trF z.s b a=zT C fun t=>z.w b t*zT R fun s=>z.u a s*A s t:=fun b hb=>by
   show z.s a b=_;rw[h.s a ha b hb];simp only[<-yX];rw[zBj];refine zF fun t ht=>zF fun s hs=>?_
   rw[qH (z.w b t),qK]
  have h2:=zOT (b:=a) (G:=fun t a=>zT R fun s=>z.u a s*A s t) hl h1 b hb;show zBI l (trF z.s) b a=_;rw[h2];simp only[<-yX];rw[zBj];refine zF fun t ht=>zF fun s hs=>?_
  rw[qH (zBI l z.w b s),qK],
 h.uv,h.vu,zJl hl h.wx,fun a ha b hb=>by
  show cod C (zNb l z.x) (zBI l z.w) a b=_;rw[zOS hl];exact h.xw a ha b hb⟩
theorem Rel.back{z:W5}(h:Rel R C A z):∀a,a<R->∀b,b<C->A a b=zT R fun s=>z.v s a*zT C fun t=>z.s s t*z.x t b:=by
 intro a ha b hb;have e1:∀s,s<R->zT C (fun t=>z.s s t*z.x t b)=zT R fun s'=>z.u s s'*A s' b:=fun s hs=>by
  have g1:∀t,t<C->z.s s t*z.x t b=zT R fun s'=>z.u s s'*(zT C fun t'=>A s' t'*(z.w t t'*z.x t b)):=fun t ht=>by
   rw[h.s s hs t ht,<-zDC];refine zF fun s' hs'=>?_
   rw[qK,<-zDC];congr 1;exact zF fun t' ht'=>qK _ _ _
  rw[zF g1,zBj];refine zF fun s' hs'=>?_
  rw[yX,zBj];congr 1;have g2:∀t',t'<C->zT C (fun t=>A s' t'*(z.w t t'*z.x t b))=A s' t'*idf t' b:=fun t' ht'=>by
   rw[yX];have:=h.xw b hb t' ht';unfold cod at this;rw[zI2 t' b,<-this];congr 1;exact zF fun t ht=>qH _ _
  rw[zF g2,zIP hb fun t'=>A s' t']
 rw[zF (fun s hs=>by rw[e1 s hs])];have g3:∀s,s<R->z.v s a*zT R (fun s'=>z.u s s'*A s' b)=zT R fun s'=>(z.v s a*z.u s s')*A s' b:=fun s hs=>by
  rw[<-yX];exact zF fun s' hs'=>(qK _ _ _).symm
 rw[zF g3,zBj];have g4:∀s',s'<R->zT R (fun s=>(z.v s a*z.u s s')*A s' b)=idf a s'*A s' b:=fun s' hs'=>by
  rw[zDC];congr 1;exact h.vu a ha s' hs'
 rw[zF g4];exact zLZ ha fun s'=>A s' b
structure leW(M R C Cu Cw:Nat)(z:W5):Prop where
 s:leM M R C z.s
 u:leM M R Cu z.u
 v:leM M R Cu z.v
 w:leM M C Cw z.w
 x:leM M C Cw z.x
theorem leW.mono{z:W5}(h:leW M R C Cu Cw z)(hM:M<=M'):leW M' R C Cu Cw z:=⟨h.s.mono hM,h.u.mono hM,h.v.mono hM,h.w.mono hM,h.x.mono hM⟩
theorem zKr(h:leM M R C F):leM M C R (trF F):=fun a ha b hb=>h b hb a ha
def rnd(z:W5)(l1 l2:List Op):W5:=⟨trF (zBI l2 (trF (zBI l1 z.s))),zBI l1 z.u,zNb l1 z.v,zBI l2 z.w,zNb l2 z.x⟩
theorem Rel.rnd{z:W5}{l1 l2:List Op}(h:Rel R C A z)(h1:jS R l1)(h2:jS C l2):Rel R C A (rnd z l1 l2):=(h.rows h1).cols h2
def GE(T:Nat):Nat:=(2*T)^KE
theorem zJH(h:1<=T):1<=GE T:=qR oM
theorem zWG{l:List Op}(hT:1<=T)(h:2*T*gro l<=(2*T)^KE):gro l<=GE T:=zB (qQ _ oM) h
theorem zK5{z:W5}(hR:R<=4)(hC:C<=4)(hM:leW M R C Cu Cw z)(hT:leM T R C z.s)(hT1:1<=T)(hM1:1<=M)(hB:M*(GE T*GE T)<B)
  (hmid:∀l r c,jS R l->Hnf C R r c (zBI l z.s)->leM T R C (zBI l z.s)):
  ∃f l1 l2 r1 c1 r2 c2,(∀g,f<=g->zPg B R C Cu Cw g z=some (rnd z l1 l2))/\jS R l1/\jS C l2/\leW (M*(GE T*GE T)) R C Cu Cw (rnd z l1 l2)∧
   Hnf C R r1 c1 (zBI l1 z.s)/\Hnf R C r2 c2 (zBI l2 (trF (zBI l1 z.s))):=by
 have hG:=zJH hT1;obtain⟨f1,l1,r1,c1,a1,a2,a3,a4⟩:=zMd (B:=B) (Ct:=Cu) hR ⟨z.s,z.u,z.v⟩ M T ⟨hM.s,hM.u,hM.v⟩ hT hT1 hM1 (fun G hG'=>by
  refine zK (zH _ ?_) hB;have:G<=GE T:=zB (qQ _ oM) hG';exact zB this (zO _ hG))
 have hg1:=zWG hT1 a3;have hT2:=hmid l1 r1 c1 a2 a4;have hM2:leM (M*GE T) R C (zBI l1 z.s):=(zDh a2 hM.s).mono (zH _ hg1);have hMG:M<=M*GE T:=zO _ hG;obtain⟨f2,l2,r2,c2,b1,b2,b3,b4⟩:=zMd (B:=B) (Ct:=Cw) hC ⟨trF (zBI l1 z.s),z.w,z.x⟩ (M*GE T) T ⟨zKr hM2,hM.w.mono hMG,hM.x.mono hMG⟩ (zKr hT2) hT1 (yC hM1 hG) (fun G hG'=>by
  rw[zC];refine zK (zH _ (zH _ ?_)) hB;exact zB (qQ _ oM) hG')
 have hg2:=zWG hT1 b3;have hMGG:M*GE T<=M*(GE T*GE T):=zH _ (zO _ hG);have hm2:M*GE T*gro l2<=M*(GE T*GE T):=by
  rw[zC];exact zH _ (zH _ hg2)
 have hm3:M*gro l2<=M*(GE T*GE T):=zB (zM _ hMG) hm2;have hm1:M*gro l1<=M*(GE T*GE T):=zB (zH _ hg1) hMGG;refine⟨max f1 f2,l1,l2,r1,c1,r2,c2,fun g hg=>?_,a2,b2,⟨?_,?_,?_,?_,?_⟩,a4,b4⟩
 ·unfold zPg
  rw[a1 g oM,zAE,zIH];dsimp only;rw[b1 g oM,zAE,zIH];rfl
 exact(zKr (zDh b2 (zKr hM2))).mono hm2;exact(zDh a2 hM.u).mono hm1;exact(zLf a2 hM.v).mono hm1;exact(zDh b2 hM.w).mono hm3;exact(zLf b2 hM.x).mono hm3
structure Low(R C r:Nat)(F:Nat->Nat->Int):Prop where
 hnf:Hnf R C r (fun k=>k) (trF F)
 row:∀a,r<=a->a<R->∀b,b<C->F a b=0
 le:r<=R
theorem zMx{b:Nat}{l:List Op}(hl:jS n l):∀{F:Nat->Nat->Int},(∀a,a<n->F a b=0)->∀a,a<n->zBI l F a b=0:=by
 intro F h a ha;rw[zLt hl F a ha b];exact zAS fun t ht=>by rw[h t ht,zP]
theorem second{l2:List Op}(hH:Hnf C R r1 c1 H)(hl:jS C l2)(h2:Hnf R C r2 c2 (zBI l2 (trF H))):
  r2=r1/\(∀k,k<r1->c2 k=k)/\Low R C r1 (trF (zBI l2 (trF H))):=by
 have hz:∀a,a<C->∀b,r1<=b->b<R->zBI l2 (trF H) a b=0:=fun a ha b h3 h4=>zMx hl (fun a' ha'=>hH.zero b h3 h4 a' ha') a ha
 have hdet:det r1 (fun a b=>trF H (c1 a) b)≠0:=by
  have e:(fun a b=>trF H (c1 a) b)=trp (fun a b=>H a (c1 b)):=rfl;rw[e,zC5,zFz fun a ha b hb hab=>hH.ech.zero a ha _ (hH.ech.inc b a hab ha)];have:=zAI (n:=r1) (f:=fun i=>H i (c1 i)) fun i hi=>hH.ech.pos i hi
  omega
 obtain⟨e1,e2⟩:=zKg h2 (fun a ha b _=>zEv hl (trF H) a ha b) hz hH.le (fun a ha=>hH.ech.lt a ha) hdet;subst e1;refine⟨rfl,fun k hk=>e2 k hk,⟨h2.le,⟨fun k hk=>?_,fun k hk=>?_,fun k hk t ht=>?_,fun k l h3 _=>h3⟩,fun i j h3 h4 _=>?_,h2.zero⟩,fun a h3 h4 b hb=>hz b hb a h3 h4,hH.le⟩;have:=h2.ech.lt k hk;rwa[e2 k hk]at this;have:=h2.ech.pos k hk;rw[e2 k hk]at this;exact this;exact h2.ech.zero k hk t (by rw[e2 k hk];exact ht);have:=h2.red i j h3 h4 trivial;rw[e2 j h4]at this;exact this
theorem Hnf.congr_c(h:Hnf C n r c F)(he:∀k,k<r->c k=k):Hnf C n r (fun k=>k) F:=
 ⟨h.le,⟨fun k hk=>by have:=h.ech.lt k hk;rwa[he k hk]at this,fun k hk=>by have:=h.ech.pos k hk;rw[he k hk]at this;exact this,fun k hk t ht=>h.ech.zero k hk t (by rw[he k hk];exact ht),fun k l h3 _=>h3⟩,
  fun i j h3 h4 _=>by have:=h.red i j h3 h4 trivial;rw[he j h4]at this;exact this,h.zero⟩
theorem first{l1:List Op}(hF:Low R C r F)(hl:jS R l1)(h1:Hnf C R r1 c1 (zBI l1 F)):
  r1=r/\Hnf C R r (fun k=>k) (zBI l1 F)/\∀a,a<R->∀b,r<=b->b<C->zBI l1 F a b=0:=by
 have hz:∀a,a<R->∀b,r<=b->b<C->zBI l1 F a b=0:=fun a ha b h3 h4=>zMx hl (fun a' ha'=>hF.hnf.zero b h3 h4 a' ha') a ha
 have hdet:det r (fun a b=>F a b)≠0:=by
  rw[zD6 (F:=F) fun a ha b hb hab=>hF.hnf.ech.zero b hb a hab];have:=zAI (n:=r) (f:=fun i=>F i i) fun i hi=>hF.hnf.ech.pos i hi
  omega
 obtain⟨e1,e2⟩:=zKg (σ:=fun a=>a) h1 (fun a ha b _=>zEv hl F a ha b) hz hF.hnf.le (fun a ha=>by have:=hF.le;omega) hdet;subst e1;exact⟨rfl,h1.congr_c e2,hz⟩
def mu(r:Nat)(F:Nat->Nat->Int):Int:=jB r fun j=>jB (j+1) fun i=>F i i
theorem zGD{f g:Nat->Int}(hf:∀i,i<n->0<f i)(hg:∀i,i<n->0<g i)(hd:∀i,i<n->f i∣g i)(h:jB n f=jB n g):∀i,i<n->f i=g i:=by
 induction n with
 |zero=>intro i hi;omega
 | succ n ih=>
  unfold jB at h;have h1:=zAI (n:=n) (f:=f) fun i hi=>hf i oM
  have h2:=zAI (n:=n) (f:=g) fun i hi=>hg i oM
  have h3:=zDD h2 (zHq fun i hi=>hd i oM);have h4:=zDD (hg n oM) (hd n oM);have h5:=hf n oM;have h6:jB n f=jB n g:=by
   refine Int.le_antisymm h3 ?_;refine Int.not_lt.1 fun h7=>?_
   have:jB n f*f n<jB n g*f n:=Int.mul_lt_mul_of_pos_right h7 h5;have:jB n g*f n<=jB n g*g n:=zAX h4 oM;omega
  have h7:f n=g n:=by
   rw[h6]at h;exact zAW oM h
  intro i hi;by_cases e:i=n
  ·rw[e];exact h7
  exact ih (fun i hi=>hf i oM) (fun i hi=>hg i oM) (fun i hi=>hd i oM) h6 i oM
theorem zHZ{f g:Nat->Int}(hg:∀i,i<r->0<g i)(h:∀j,j<=r->jB j f=jB j g):∀i,i<r->f i=g i:=by
 intro i hi;have h1:=h i oM;have h2:=h (i+1) oM;unfold jB at h2;rw[h1]at h2;have:=zAI (n:=i) (f:=g) fun k hk=>hg k oM
 exact zAW oM h2
theorem zZX{h:Nat}{A:Nat->Nat->Int}{z:W5}{l1 l2:List Op}{r1:Nat}{c1:Nat->Nat}{r2:Nat}{c2:Nat->Nat}(hR:R<=4)(hF:Low R C r z.s)(h1:jS R l1)(h2:jS C l2)
  (hn1:Hnf C R r1 c1 (zBI l1 z.s)) (hn2:Hnf R C r2 c2 (zBI l2 (trF (zBI l1 z.s)))):
  Low R C r (rnd z l1 l2).s/\(mu r (rnd z l1 l2).s∣mu r z.s)/\(mu r (rnd z l1 l2).s=mu r z.s->zGl R C (rnd z l1 l2).s):=by
 obtain⟨rfl,hH,hz⟩:=first hF h1 hn1
 obtain⟨rfl,e2,hL⟩:=second hH h2 hn2;have hn2':=hn2.congr_c e2;have hpF:∀i,i<r2->0<z.s i i:=fun i hi=>hF.hnf.ech.pos i hi
 have hpH:∀i,i<r2->0<zBI l1 z.s i i:=fun i hi=>hH.ech.pos i hi
 have hpL:∀i,i<r2->0<(rnd z l1 l2).s i i:=fun i hi=>hL.hnf.ech.pos i hi
 have d1:∀j,j<=r2->jB j (fun i=>zBI l1 z.s i i)∣jB j (fun i=>z.s i i):=fun j hj=>zSV hH (fun a ha b _=>zEv h1 z.s a ha b) hj fun a ha b hb hab=>hF.hnf.ech.zero b oM a hab
 have d2:∀j,j<=r2->jB j (fun i=>(rnd z l1 l2).s i i)∣jB j (fun i=>zBI l1 z.s i i):=fun j hj=>
  zSV (F:=trF (zBI l1 z.s)) (H:=zBI l2 (trF (zBI l1 z.s))) hn2' (fun a ha b _=>zEv h2 _ a ha b) hj fun a ha b hb hab=>hH.ech.zero b oM a hab
 refine⟨hL,zHq fun j hj=>zEC (d2 _ oM) (d1 _ oM),fun he=>?_⟩;have g1:=zGD (fun j hj=>zAI fun i hi=>hpL i oM) (fun j hj=>zAI fun i hi=>hpF i oM) (fun j hj=>zEC (d2 (j+1) oM) (d1 (j+1) oM)) he;have g2:∀j,j<=r2->jB j (fun i=>zBI l1 z.s i i)=jB j (fun i=>(rnd z l1 l2).s i i):=fun j hj=>by
  cases j with
  |zero=>rfl
  |succ j=>
   have k1:=g1 j oM;have k2:=zDD (zAI fun i hi=>hpH i oM) (d2 (j+1) hj);have k3:=zDD (zAI fun i hi=>hpF i oM) (d1 (j+1) hj);omega
 have g3:=zHZ hpL g2;have g4:=zUv (F:=trF (zBI l1 z.s)) hn2' (fun a ha b _=>zEv h2 _ a ha b) (fun a ha b hb hab=>hH.ech.zero b hb a hab) g3 hF.le;intro a ha b hb hab;show zBI l2 (trF (zBI l1 z.s)) b a=0;rcases zG b r2 with k1|k1
 ·rcases zG a r2 with k2|k2
  ·rcases zG b a with k3|k3
   ·exact g4 b k1 a k2 k3
   exact hn2'.ech.zero b k1 a (show a<b by omega)
  exact hL.row a k2 ha b hb
 exact hn2'.zero b k1 hb a ha
end Go.Proofs.YtkidaebmhlijlaaGreat
