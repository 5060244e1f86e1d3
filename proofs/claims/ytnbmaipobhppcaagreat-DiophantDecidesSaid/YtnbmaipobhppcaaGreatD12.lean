/- Sums and determinants (Laplace along the first row) of integer matrices as functions. Plain Lean. torsionref05.New. Matrices given by their elements; writing an element. torsionref05.Scale. torsionref05: Copied, Identity. torsionref05: Mul, Product. torsionref05: Sized. torsionref13: Inverse. smith: leading, quotient. -/
import Derived.Test.YtnbmaipobhppcaaGreatD09
set_option linter.unusedVariables false
set_option linter.unusedSimpArgs false
set_option linter.unusedSectionVars false
set_option maxHeartbeats 16000000
set_option maxRecDepth 100000
namespace Go.Proofs.YtnbmaipobhppcaaGreat
theorem zJA{a b:Int}(h:a=b):a∣b:=⟨1,by rw[h,Int.mul_one]⟩
def qE:Nat->(Nat->Int)->Int
 |0,_=>0
 |n+1,f=>qE n f+f n
theorem zU{n:Nat}{f g:Nat->Int}(h:∀i,i<n->f i=g i):qE n f=qE n g:=by
 induction n with
 |zero=>rfl
 |succ n ih=>unfold qE;rw[ih (fun i hi=>h i (by omega)),h n (by omega)]
theorem zDG{n:Nat}{f:Nat->Int}(h:∀i,i<n->f i=0):qE n f=0:=by
 induction n with
 |zero=>rfl
 |succ n ih=>unfold qE;rw[ih (fun i hi=>h i (by omega)),h n (by omega)];rfl
theorem zAb(n:Nat)(f g:Nat->Int):qE n (fun i=>f i+g i)=qE n f+qE n g:=by
 induction n with
 |zero=>rfl
 |succ n ih=>unfold qE;rw[ih];dsimp only;omega
theorem yI(n:Nat)(k:Int)(f:Nat->Int):qE n (fun i=>k*f i)=k*qE n f:=by
 induction n with
 |zero=>unfold qE;rw[Int.mul_zero]
 |succ n ih=>unfold qE;rw[ih,Int.mul_add]
theorem zNB(n:Nat)(x y:Int)(f g:Nat->Int):qE n (fun i=>x*f i+y*g i)=x*qE n f+y*qE n g:=by
 rw[zAb,yI,yI]
theorem zFc(n:Nat)(f:Nat->Int):qE (n+1) f=f 0+qE n (fun i=>f (i+1)):=by
 induction n with
 |zero=>unfold qE qE;omega
 |succ n ih=>
  have h:qE (n+1+1) f=qE (n+1) f+f (n+1):=rfl;have h2:qE (n+1) (fun i=>f (i+1))=qE n (fun i=>f (i+1))+f (n+1):=rfl;rw[h,h2,ih];omega
theorem zEn(n m:Nat)(f:Nat->Nat->Int):qE n (fun i=>qE m (fun j=>f i j))=qE m (fun j=>qE n (fun i=>f i j)):=by
 induction n with
 |zero=>exact(zDG fun _ _=>rfl).symm
 |succ n ih=>
  show qE n (fun i=>qE m (fun j=>f i j))+qE m (fun j=>f n j)=qE m (fun j=>qE n (fun i=>f i j)+f n j);rw[zAb,ih]
theorem zAG{n:Nat}{f:Nat->Int}{c:Nat}(hc:c<n)(h:∀i,i<n->i≠c->f i=0):qE n f=f c:=by
 induction n with
 |zero=>omega
 | succ n ih=>
  unfold qE;by_cases e:c=n
  ·subst e
   rw[zDG (fun i hi=>h i (by omega) (by omega))];omega
  ·rw[ih (by omega) (fun i hi hne=>h i (by omega) hne),h n (by omega) (by omega)];omega
theorem zNC{n:Nat}{f:Nat->Int}{c:Nat}(hc:c+1<n)(h:∀i,i<n->i≠c->i≠c+1->f i=0):qE n f=f c+f (c+1):=by
 induction n with
 |zero=>omega
 | succ n ih=>
  unfold qE;by_cases e:c+1=n
  ·subst e
   rw[zAG (c:=c) (by omega) (fun i hi hne=>h i (by omega) hne (by omega))]
  ·rw[ih (by omega) (fun i hi h1 h2=>h i (by omega) h1 h2),h n (by omega) (by omega) (by omega)];omega
theorem zNA{n:Nat}{f:Nat->Int}{g:Int}(h:∀i,i<n->g∣f i):g∣qE n f:=by
 induction n with
 |zero=>exact⟨0,by unfold qE;omega⟩
 |succ n ih=>exact Int.dvd_add (ih fun i hi=>h i (by omega)) (h n (by omega))
theorem zEC{n m:Nat}(hnm:n<=m){f:Nat->Int}(h:∀i,n<=i->i<m->f i=0):qE m f=qE n f:=by
 induction m with
 |zero=>
  obtain rfl:n=0:=by omega
  rfl
 | succ m ih=>
  rcases Nat.lt_or_ge n (m+1)with h1|h1
  ·unfold qE
   rw[ih (by omega) (fun i a b=>h i a (by omega)),h m (by omega) (by omega)];have:∀n,qE n f=qE n f:=fun _=>rfl
   cases n<;>simp[qE]
  ·obtain rfl:n=m+1:=by omega
   rfl
theorem zEm{n:Nat}{f:Nat->Int}{B:Nat}(h:∀i,i<n->(f i).natAbs<=B):(qE n f).natAbs<=n*B:=by
 induction n with
 |zero=>simp[qE]
 |succ n ih=>
  have h1:=ih fun i hi=>h i (by omega)
  have h2:=h n (by omega);have h3:(qE n f+f n).natAbs<=(qE n f).natAbs+(f n).natAbs:=by omega
  have h4:(n+1)*B=n*B+B:=Nat.succ_mul n B;unfold qE;omega
def sk(j b:Nat):Nat:=if b<j then b else b+1
theorem zP9(j b:Nat):sk j b≠j:=by unfold sk;split<;>omega
theorem zM9{j b k:Nat}(h:b<k):sk j b<k+1:=by unfold sk;split<;>omega
theorem zB9(b:Nat):sk 0 b=b+1:=by unfold sk;split<;>omega
theorem zPY{j a b:Nat}(h:sk j a=sk j b):a=b:=by
 unfold sk at h;split at h<;>split at h<;>omega
def mnr(F:Nat->Nat->Int)(i j:Nat):Nat->Nat->Int:=fun a b=>F (sk i a) (sk j b)
def sg1(j:Nat):Int:=if j%2=0 then 1 else-1
theorem zM8:sg1 0=1:=rfl
theorem zGC(j:Nat):sg1 (j+1)=-sg1 j:=by unfold sg1;split<;>split<;>omega
theorem zOh(j:Nat)(z:Int):(sg1 j*z).natAbs=z.natAbs:=by unfold sg1;split<;>omega
def det:Nat->(Nat->Nat->Int)->Int
 |0,_=>1
 |k+1,F=>qE (k+1) fun j=>sg1 j*(F 0 j*det k (mnr F 0 j))
theorem zAS(k:Nat)(F:Nat->Nat->Int):det (k+1) F=qE (k+1) fun j=>sg1 j*(F 0 j*det k (mnr F 0 j)):=rfl
theorem zA1{k:Nat}:∀{F G:Nat->Nat->Int},(∀a,a<k->∀b,b<k->F a b=G a b)->det k F=det k G:=by
 induction k with
 |zero=>intros;rfl
 |succ k ih=>
  intro F G h;rw[zAS,zAS];refine zU fun j hj=>?_
  rw[h 0 (by omega) j hj,ih (F:=mnr F 0 j) (G:=mnr G 0 j) fun a ha b hb=>h _ (zM9 ha) _ (zM9 hb)]
def zAp(F:Nat->Nat->Int)(c:Nat)(v:Nat->Int):Nat->Nat->Int:=fun a b=>if b=c then v a else F a b
def zIA(F:Nat->Nat->Int)(c:Nat)(v:Nat->Int):Nat->Nat->Int:=fun a b=>if a=c then v b else F a b
theorem zBl(F:Nat->Nat->Int)(i c:Nat)(v:Nat->Int):mnr (zAp F c v) i c=mnr F i c:=by
 funext a b
 unfold mnr zAp;rw[if_neg (zP9 c b)]
theorem zF4{F:Nat->Nat->Int}{i j c c':Nat}{v:Nat->Int}(h:sk j c=c'):mnr (zAp F c' v) i j=zAp (mnr F i j) c (fun a=>v (sk i a)):=by
 funext a b
 unfold mnr zAp;by_cases e:b=c
 ·rw[if_pos e,if_pos (by rw[e,h])]
 ·rw[if_neg e,if_neg (fun e'=>e (zPY (e'.trans h.symm)))]
theorem zPZ{j c:Nat}(h:c≠j):∃c',sk j c'=c/\(∀k,j<k+1->c<k+1->c'<k):=by
 by_cases h1:c<j
 ·exact⟨c,by unfold sk;rw[if_pos h1],fun k _ _=>by omega⟩
 ·exact⟨c-1,by unfold sk;rw[if_neg (by omega)];omega,fun k _ _=>by omega⟩
theorem zEQ{k:Nat}:∀{F:Nat->Nat->Int} {c:Nat} {v w:Nat->Int} {x y:Int},c<k->
  det k (zAp F c fun a=>x*v a+y*w a)=x*det k (zAp F c v)+y*det k (zAp F c w):=by
 induction k with
 |zero=>intro F c v w x y h;omega
 | succ k ih=>
  intro F c v w x y hc;rw[zAS,zAS,zAS,<-zNB];refine zU fun j hj=>?_
  by_cases e:j=c
  ·subst e
   rw[zBl,zBl,zBl];unfold zAp;simp only[if_true];rw[Int.add_mul,Int.mul_add,Int.mul_assoc x,Int.mul_assoc y,Int.mul_left_comm (sg1 j) x,Int.mul_left_comm (sg1 j) y]
  ·obtain⟨c',h1,h2⟩:=zPZ (j:=j) (c:=c) (fun h=>e h.symm)
   rw[zF4 h1,zF4 h1,zF4 h1,ih (h2 k hj hc)];have:∀u:Nat->Int,zAp F c u 0 j=F 0 j:=fun u=>by unfold zAp;rw[if_neg e]
   rw[this,this,this,Int.mul_add,Int.mul_add,Int.mul_left_comm (F 0 j) x,Int.mul_left_comm (F 0 j) y,Int.mul_left_comm (sg1 j) x,Int.mul_left_comm (sg1 j) y]
theorem zEk(F:Nat->Nat->Int)(c:Nat):zAp F c (fun a=>F a c)=F:=by
 funext a b
 unfold zAp;split
 ·rename_i h;rw[h]
 ·rfl
theorem zBj{k:Nat}:∀{F:Nat->Nat->Int} {c:Nat},c+1<k->(∀a,F a c=F a (c+1))->det k F=0:=by
 induction k with
 |zero=>intro F c h;omega
 | succ k ih=>
  intro F c hc h;rw[zAS,zNC (c:=c) hc]
  ·rw[zGC,h 0]
   have:mnr F 0 c=mnr F 0 (c+1):=by
    funext a b
    unfold mnr;by_cases e:b=c
    ·rw[e]
     have h1:sk c c=c+1:=by unfold sk;rw[if_neg (by omega)]
     have h2:sk (c+1) c=c:=by unfold sk;rw[if_pos (by omega)]
     rw[h1,h2,h]
    ·have:sk c b=sk (c+1) b:=by unfold sk;split<;>split<;>omega
     rw[this]
   rw[this,Int.neg_mul];omega
  ·intro j hj h1 h2
   have:det k (mnr F 0 j)=0:=by
    rcases Nat.lt_or_ge j c with h3|h3
    ·refine ih (c:=c-1) (by omega) fun a=>?_
     unfold mnr;have e1:sk j (c-1)=c:=by unfold sk;rw[if_neg (by omega)];omega
     have e2:sk j (c-1+1)=c+1:=by unfold sk;rw[if_neg (by omega)];omega
     rw[e1,e2,h]
    ·refine ih (c:=c) (by omega) fun a=>?_
     unfold mnr;have e1:sk j c=c:=by unfold sk;rw[if_pos (by omega)]
     have e2:sk j (c+1)=c+1:=by unfold sk;rw[if_pos (by omega)]
     rw[e1,e2,h]
   rw[this,Int.mul_zero,Int.mul_zero]
theorem zCd{k:Nat}{F:Nat->Nat->Int}{c:Nat}{v w:Nat->Int}(h:c<k):det k (zAp F c fun a=>v a+w a)=det k (zAp F c v)+det k (zAp F c w):=by
 have:=zEQ (F:=F) (v:=v) (w:=w) (x:=1) (y:=1) h;rw[Int.one_mul,Int.one_mul]at this;rw[<-this];congr 1
 funext a b
 unfold zAp;split
 ·show v a+w a=1*v a+1*w a
  rw[Int.one_mul,Int.one_mul]
 ·rfl
theorem zBb(F:Nat->Nat->Int)(c d:Nat)(v w:Nat->Int)(h:c≠d):zAp (zAp F c v) d w=zAp (zAp F d w) c v:=by
 funext a b
 unfold zAp;by_cases e:b=d
 ·rw[if_pos e,if_neg (by omega),if_pos e]
 ·rw[if_neg e]
  by_cases e2:b=c
  ·rw[if_pos e2,if_pos e2]
  ·rw[if_neg e2,if_neg e2,if_neg e]
theorem zDq{k:Nat}{F G:Nat->Nat->Int}{c:Nat}(hc:c+1<k)(h:∀a b,G a b=F a (if b=c then c+1 else if b=c+1 then c else b)):det k G=-det k F:=by
 have key:∀v w:Nat->Int,det k (zAp (zAp F c v) (c+1) w)=-det k (zAp (zAp F c w) (c+1) v):=by
  intro v w;have h0:det k (zAp (zAp F c fun a=>v a+w a) (c+1) fun a=>v a+w a)=0:=zBj hc fun a=>by
   unfold zAp;rw[if_neg (by omega),if_pos rfl,if_pos rfl]
  have hv:det k (zAp (zAp F c v) (c+1) v)=0:=zBj hc fun a=>by
   unfold zAp;rw[if_neg (by omega),if_pos rfl,if_pos rfl]
  have hw:det k (zAp (zAp F c w) (c+1) w)=0:=zBj hc fun a=>by
   unfold zAp;rw[if_neg (by omega),if_pos rfl,if_pos rfl]
  rw[zCd hc,zBb _ _ _ _ v (by omega),zBb _ _ _ _ w (by omega),zCd (by omega),zCd (by omega)]at h0;rw[zBb _ _ _ _ v (by omega)]at hv;rw[zBb _ _ _ _ w (by omega)]at hw;rw[zBb F c (c+1) v w (by omega),zBb F c (c+1) w v (by omega)];omega
 have h1:=key (fun a=>F a (c+1)) (fun a=>F a c);have e1:zAp (zAp F c fun a=>F a (c+1)) (c+1) (fun a=>F a c)=G:=by
  funext a b
  rw[h];unfold zAp;by_cases e:b=c
  ·rw[if_neg (by omega),if_pos e,if_pos e]
  ·rw[if_neg e,if_neg e]
   split<;>rfl
 have e2:zAp (zAp F c fun a=>F a c) (c+1) (fun a=>F a (c+1))=F:=by rw[zEk,zEk]
 rw[<-e1,h1,e2]
theorem zDQ{k:Nat}{F:Nat->Nat->Int}{c d:Nat}(hcd:c<d)(hd:d<k)(h:∀a,F a c=F a d):det k F=0:=by
 obtain⟨n,hn⟩:∃n,d=c+1+n:=⟨d-(c+1),by omega⟩;induction n generalizing F d with
 |zero=>subst hn;exact zBj hd h
 | succ n ih=>
  have h1:=zDq (k:=k) (F:=F) (G:=fun a b=>F a (if b=d-1 then d-1+1 else if b=d-1+1 then d-1 else b)) (c:=d-1) (by omega) fun a b=>rfl
  have h2:=ih (F:=fun a b=>F a (if b=d-1 then d-1+1 else if b=d-1+1 then d-1 else b)) (d:=d-1) (by omega) (by omega) (fun a=>by
   rw[if_neg (by omega),if_neg (by omega),if_pos rfl,h];congr 1;omega) (by omega)
  omega
theorem zFo(k:Nat):∀F:Nat->Nat->Int,det (k+1) F=qE (k+1) fun i=>sg1 i*(F i 0*det k (mnr F i 0)):=by
 induction k with
 |zero=>intro F;rfl
 | succ k ih=>
  intro F;rw[zAS,zFc,zFc _ (fun i=>sg1 i*(F i 0*det (k+1) (mnr F i 0)))];congr 1;have e1:∀j,det (k+1) (mnr F 0 (j+1))=qE (k+1) fun i=>sg1 i*(F (i+1) 0*det k (fun a b=>F (sk i a+1) (sk j b+1))):=by
   intro j;rw[ih];refine zU fun i hi=>?_
   have a1:mnr F 0 (j+1) i 0=F (i+1) 0:=by
    unfold mnr;rw[zB9];rfl
   have a2:mnr (mnr F 0 (j+1)) i 0=fun a b=>F (sk i a+1) (sk j b+1):=by
    funext a b
    unfold mnr;rw[zB9,zB9];congr 1;unfold sk;split<;>split<;>omega
   rw[a1,a2]
  have e2:∀i,det (k+1) (mnr F (i+1) 0)=qE (k+1) fun j=>sg1 j*(F 0 (j+1)*det k (fun a b=>F (sk i a+1) (sk j b+1))):=by
   intro i;rw[zAS];refine zU fun j hj=>?_
   have a1:mnr F (i+1) 0 0 j=F 0 (j+1):=by
    unfold mnr;rw[zB9];rfl
   have a2:mnr (mnr F (i+1) 0) 0 j=fun a b=>F (sk i a+1) (sk j b+1):=by
    funext a b
    unfold mnr;rw[zB9,zB9];congr 1;unfold sk;split<;>split<;>omega
   rw[a1,a2]
  have l1:qE (k+1) (fun j=>sg1 (j+1)*(F 0 (j+1)*det (k+1) (mnr F 0 (j+1))))=qE (k+1) fun j=>qE (k+1) fun i=>sg1 (j+1)*(F 0 (j+1)*(sg1 i*(F (i+1) 0*det k (fun a b=>F (sk i a+1) (sk j b+1))))):=by
   refine zU fun j hj=>?_
   rw[e1 j,<-yI,<-yI]
  have l2:qE (k+1) (fun i=>sg1 (i+1)*(F (i+1) 0*det (k+1) (mnr F (i+1) 0)))=qE (k+1) fun i=>qE (k+1) fun j=>sg1 (i+1)*(F (i+1) 0*(sg1 j*(F 0 (j+1)*det k (fun a b=>F (sk i a+1) (sk j b+1))))):=by
   refine zU fun i hi=>?_
   rw[e2 i,<-yI,<-yI]
  rw[l1,l2,zEn];refine zU fun i hi=>zU fun j hj=>?_
  rw[zGC,zGC];generalize det k _=D;generalize F 0 (j+1)=P;generalize F (i+1) 0=Q;generalize sg1 i=s;generalize sg1 j=t;grind
def trp(F:Nat->Nat->Int):Nat->Nat->Int:=fun a b=>F b a
theorem zBK(k:Nat):∀F:Nat->Nat->Int,det k (trp F)=det k F:=by
 induction k with
 |zero=>intro F;rfl
 |succ k ih=>
  intro F;rw[zAS,zFo];refine zU fun j hj=>?_
  have:mnr (trp F) 0 j=trp (mnr F j 0):=rfl;rw[this,ih];rfl
theorem zER{k:Nat}{F:Nat->Nat->Int}{c:Nat}{v w:Nat->Int}{x y:Int}(h:c<k):
  det k (zIA F c fun a=>x*v a+y*w a)=x*det k (zIA F c v)+y*det k (zIA F c w):=by
 have e:∀u,trp (zIA F c u)=zAp (trp F) c u:=fun u=>rfl
 rw[<-zBK,<-zBK k (zIA F c v),<-zBK k (zIA F c w),e,e,e];exact zEQ h
theorem zA9{k:Nat}{F:Nat->Nat->Int}{c:Nat}(h:c<k)(h0:∀b,b<k->F c b=0):det k F=0:=by
 have:=zER (F:=F) (v:=F c) (w:=F c) (x:=0) (y:=0) h;rw[Int.zero_mul (det k _),Int.zero_add]at this;rw[<-this];refine zA1 fun a ha b hb=>?_
 unfold zIA;split
 ·rename_i e;rw[e,h0 b hb];simp
 ·rfl
theorem zFD{k:Nat}{F:Nat->Nat->Int}{c d:Nat}(hcd:c<d)(hd:d<k)(h:∀b,F c b=F d b):det k F=0:=by
 rw[<-zBK];exact zDQ hcd hd h
theorem zGb{k:Nat}{F G:Nat->Nat->Int}{c:Nat}(hc:c+1<k)(h:∀a b,G a b=F (if a=c then c+1 else if a=c+1 then c else a) b):det k G=-det k F:=by
 rw[<-zBK k G,<-zBK k F];exact zDq hc fun a b=>h b a
theorem zES{k R:Nat}{F:Nat->Nat->Int}{i:Nat}{c:Nat->Int}{v:Nat->Nat->Int}(h:i<k):
  det k (zIA F i fun b=>qE R fun t=>c t*v t b)=qE R fun t=>c t*det k (zIA F i (v t)):=by
 induction R with
 |zero=>exact zA9 h fun b hb=>by unfold zIA;rw[if_pos rfl];rfl
 | succ R ih=>
  show det k (zIA F i fun b=>qE R (fun t=>c t*v t b)+c R*v R b)=_;have e:(fun b=>qE R (fun t=>c t*v t b)+c R*v R b)=fun b=>1*(fun b=>qE R fun t=>c t*v t b) b+c R*v R b:=by
   funext b
   rw[Int.one_mul]
  rw[e,zER h,ih,Int.one_mul];rfl
theorem zBx{k R:Nat}{F P:Nat->Nat->Int}{g:Int}(h:∀σ:Nat->Nat,(∀a,a<k->σ a<R)->g∣det k fun a b=>F (σ a) b):
  g∣det k fun a b=>qE R fun t=>P a t*F t b:=by
 have key:∀i,i<=k->∀σ:Nat->Nat,(∀a,a<k->σ a<R)->g∣det k fun a b=>if a<i then qE R fun t=>P a t*F t b else F (σ a) b:=by
  intro i;induction i with
  |zero=>
   intro _ σ hσ;have:=h σ hσ;simpa using this
  | succ i ih=>
   intro hi σ hσ;have e:(fun a b=>if a<i+1 then qE R fun t=>P a t*F t b else F (σ a) b)=zIA (fun a b=>if a<i then qE R fun t=>P a t*F t b else F (σ a) b) i fun b=>qE R fun t=>P i t*F t b:=by
    funext a b
    unfold zIA;by_cases e:a=i
    ·rw[if_pos e,if_pos (by omega),e]
    ·rw[if_neg e]
     dsimp only;by_cases e2:a<i
     ·rw[if_pos e2,if_pos (by omega)]
     ·rw[if_neg e2,if_neg (by omega)]
   rw[e,zES (by omega)];refine zNA fun t ht=>Int.dvd_trans ?_ (Int.dvd_mul_left _ _)
   have:=ih (by omega) (fun a=>if a=i then t else σ a) fun a ha=>by
    split
    ·exact ht
    ·exact hσ a ha
   have e3:(fun a b=>if a<i then qE R fun t=>P a t*F t b else F ((fun a=>if a=i then t else σ a) a) b)=zIA (fun a b=>if a<i then qE R fun t=>P a t*F t b else F (σ a) b) i (F t):=by
    funext a b
    unfold zIA;dsimp only;by_cases e:a=i
    ·rw[if_pos e,if_pos e,if_neg (by omega)]
    ·rw[if_neg e,if_neg e]
   rw[e3]at this;exact this
 by_cases hR:0<R
 ·have:=key k (Nat.le_refl _) (fun _=>0) (fun _ _=>hR)
  refine Int.dvd_trans this (zJA (zA1 fun a ha b hb=>?_));rw[if_pos ha]
 ·obtain rfl:R=0:=by omega
  rcases Nat.eq_zero_or_pos k with hk|hk
  ·subst hk
   exact h (fun _=>0) (fun a ha=>by omega)
  ·rw[zA9 hk fun b hb=>rfl]
   exact Int.dvd_zero g
def Inc(k:Nat)(σ:Nat->Nat):Prop:=∀a,a+1<k->σ a<σ (a+1)
def wt:Nat->(Nat->Nat)->Nat
 |0,_=>0
 |n+1,σ=>wt n σ+n*σ n
theorem zPd{n R:Nat}{σ:Nat->Nat}(h:∀a,a<n->σ a<R):wt n σ<=n*(n*R):=by
 induction n with
 |zero=>simp[wt]
 |succ n ih=>
  have h1:=ih fun a ha=>h a (by omega)
  have h2:=h n (by omega);unfold wt;have h3:n*σ n<=n*R:=Nat.mul_le_mul_left _ (by omega);have h4:n*(n*R)<=n*((n+1)*R):=Nat.mul_le_mul_left _ (Nat.mul_le_mul_right _ (by omega));have h5:(n+1)*((n+1)*R)=n*((n+1)*R)+(n+1)*R:=Nat.succ_mul _ _;have h6:(n+1)*R=n*R+R:=Nat.succ_mul _ _;omega
theorem zNO{n:Nat}{σ τ:Nat->Nat}(h:∀a,a<n->σ a=τ a):wt n σ=wt n τ:=by
 induction n with
 |zero=>rfl
 |succ n ih=>unfold wt;rw[ih fun a ha=>h a (by omega),h n (by omega)]
theorem zLp{n:Nat}{σ τ:Nat->Nat}{c:Nat}(hc:c+1<n)(h:∀a,τ a=σ (if a=c then c+1 else if a=c+1 then c else a))(hlt:σ (c+1)<σ c):wt n σ<wt n τ:=by
 obtain⟨m,rfl⟩:∃m,n=c+2+m:=⟨n-(c+2),by omega⟩;clear hc;induction m with
 |zero=>
  show wt c σ+c*σ c+(c+1)*σ (c+1)<wt c τ+c*τ c+(c+1)*τ (c+1);have h1:wt c σ=wt c τ:=zNO fun a ha=>by rw[h,if_neg (by omega),if_neg (by omega)]
  have h2:τ c=σ (c+1):=by rw[h,if_pos rfl]
  have h3:τ (c+1)=σ c:=by rw[h,if_neg (by omega),if_pos rfl]
  rw[h1,h2,h3];have e1:(c+1)*σ (c+1)=c*σ (c+1)+σ (c+1):=Nat.succ_mul _ _;have e2:(c+1)*σ c=c*σ c+σ c:=Nat.succ_mul _ _;omega
 |succ m ih=>
  show wt (c+2+m) σ+(c+2+m)*σ (c+2+m)<wt (c+2+m) τ+(c+2+m)*τ (c+2+m);have h1:τ (c+2+m)=σ (c+2+m):=by rw[h,if_neg (by omega),if_neg (by omega)]
  rw[h1];omega
theorem zDr{k R:Nat}{F:Nat->Nat->Int}{g:Int}(h:∀σ:Nat->Nat,(∀a,a<k->σ a<R)->Inc k σ->g∣det k fun a b=>F (σ a) b):
  ∀σ:Nat->Nat,(∀a,a<k->σ a<R)->g∣det k fun a b=>F (σ a) b:=by
 have key:∀n,∀σ:Nat->Nat,(∀a,a<k->σ a<R)->k*(k*R)-wt k σ<=n->g∣det k fun a b=>F (σ a) b:=by
  intro n;induction n with
  | zero=>
   intro σ hσ hn;by_cases hi:∀a,a+1<k->σ a<σ (a+1)
   ·exact h σ hσ hi
   ·obtain⟨c,hc⟩:=Classical.not_forall.1 hi
    obtain⟨hc1,hc2⟩:=Classical.not_imp.1 hc;rcases Nat.lt_or_ge (σ (c+1)) (σ c)with h1|h1
    ·have hs:=zLp (n:=k) (σ:=σ) (τ:=fun a=>σ (if a=c then c+1 else if a=c+1 then c else a)) hc1 (fun a=>rfl) h1
     have hl:=zPd (n:=k) (R:=R) (σ:=fun a=>σ (if a=c then c+1 else if a=c+1 then c else a)) fun a ha=>hσ _ (by split;omega;split<;>omega)
     omega
    ·rw[zFD (c:=c) (d:=c+1) (by omega) hc1 (fun b=>by
      have:σ c=σ (c+1):=by omega
      show F (σ c) b=F (σ (c+1)) b;rw[this])]
     exact Int.dvd_zero g
  | succ n ih=>
   intro σ hσ hn;by_cases hi:∀a,a+1<k->σ a<σ (a+1)
   ·exact h σ hσ hi
   ·obtain⟨c,hc⟩:=Classical.not_forall.1 hi
    obtain⟨hc1,hc2⟩:=Classical.not_imp.1 hc;rcases Nat.lt_or_ge (σ (c+1)) (σ c)with h1|h1
    ·have hs:=zLp (n:=k) (σ:=σ) (τ:=fun a=>σ (if a=c then c+1 else if a=c+1 then c else a)) hc1 (fun a=>rfl) h1
     have hr:∀a,a<k->σ (if a=c then c+1 else if a=c+1 then c else a)<R:=fun a ha=>hσ _ (by split;omega;split<;>omega)
     have hl:=zPd (n:=k) (R:=R) (σ:=fun a=>σ (if a=c then c+1 else if a=c+1 then c else a)) hr;have:=ih (fun a=>σ (if a=c then c+1 else if a=c+1 then c else a)) hr (by omega);rw[zGb (F:=fun a b=>F (σ a) b) hc1 (fun a b=>rfl)]at this;exact Int.dvd_neg.1 this
    ·rw[zFD (c:=c) (d:=c+1) (by omega) hc1 (fun b=>by
      have:σ c=σ (c+1):=by omega
      show F (σ c) b=F (σ (c+1)) b;rw[this])]
     exact Int.dvd_zero g
 exact fun σ hσ=>key _ σ hσ (Nat.le_refl _)
theorem Inc.le{k:Nat}{σ:Nat->Nat}(h:Inc k σ):∀a,a<k->a<=σ a:=by
 intro a;induction a with
 |zero=>intro _;omega
 |succ a ih=>
  intro ha;have h1:=ih (by omega);have h2:=h a ha;omega
def jE:Nat->(Nat->Int)->Int
 |0,_=>1
 |n+1,f=>jE n f*f n
theorem zHt(n:Nat)(f:Nat->Int):jE (n+1) f=f 0*jE n (fun i=>f (i+1)):=by
 induction n with
 |zero=>unfold jE jE;rw[Int.one_mul,Int.mul_one]
 |succ n ih=>
  have h:jE (n+1+1) f=jE (n+1) f*f (n+1):=rfl;have h2:jE (n+1) (fun i=>f (i+1))=jE n (fun i=>f (i+1))*f (n+1):=rfl;rw[h,h2,ih,Int.mul_assoc]
theorem zAZ{n:Nat}{f:Nat->Int}(h:∀i,i<n->0<f i):0<jE n f:=by
 induction n with
 |zero=>exact Int.one_pos
 |succ n ih=>exact Int.mul_pos (ih fun i hi=>h i (by omega)) (h n (by omega))
theorem zGs{n:Nat}{f g:Nat->Int}(h:∀i,i<n->f i∣g i):jE n f∣jE n g:=by
 induction n with
 |zero=>exact Int.dvd_refl _
 |succ n ih=>exact Int.mul_dvd_mul (ih fun i hi=>h i (by omega)) (h n (by omega))
theorem zCx{k:Nat}:∀{F:Nat->Nat->Int},(∀a,a<k->∀b,b<k->a<b->F a b=0)->det k F=jE k fun i=>F i i:=by
 induction k with
 |zero=>intros;rfl
 | succ k ih=>
  intro F h;rw[zAS,zAG (c:=0) (by omega),zM8,Int.one_mul,zHt,ih]
  ·rfl
  ·intro a ha b hb hab
   unfold mnr;rw[zB9,zB9];exact h _ (by omega) _ (by omega) (by omega)
  ·intro j hj hne
   rw[h 0 (by omega) j hj (by omega),Int.zero_mul,Int.mul_zero]
theorem zGc{k:Nat}{F:Nat->Nat->Int}(h:∀a,a<k->∀b,b<k->b<a->F a b=0):det k F=jE k fun i=>F i i:=by
 rw[<-zBK,zCx]
 ·rfl
 ·intro a ha b hb hab
  exact h b hb a ha hab
def zHc:Nat->Nat
 |0=>1
 |n+1=>(n+1)*zHc n
theorem zI8{k h:Nat}:∀{F:Nat->Nat->Int},(∀a,a<k->∀b,b<k->(F a b).natAbs<=h)->(det k F).natAbs<=zHc k*h^k:=by
 induction k with
 |zero=>intro F _;simp[det,zHc]
 | succ k ih=>
  intro F hF;rw[zAS];refine Nat.le_trans (zEm (B:=h*(zHc k*h^k)) fun j hj=>?_) ?_
  ·rw[zOh,Int.natAbs_mul]
   exact Nat.mul_le_mul (hF 0 (by omega) j hj) (ih fun a ha b hb=>hF _ (zM9 ha) _ (zM9 hb))
  ·show _<=(k+1)*zHc k*h^(k+1)
   rw[Nat.pow_succ];apply Nat.le_of_eq;rw[Nat.mul_left_comm h,Nat.mul_comm h,Nat.mul_assoc]
end Go.Proofs.YtnbmaipobhppcaaGreat

namespace Go.Proofs.YtnbmaipobhppcaaGreat
open Go.RowKit
def zAN(R C:Nat):List (List Int):=List.replicate R (List.replicate C 0)
theorem zA4(R C:Nat)(w:World)(hR:R<=1000000)(hC:C<=1000000):
  Calls Tryz.prog 62 #[.int .i64 R,.int .i64 C] w (zAs w R C (zAN R C)):=by
 have hmk:=fun W=>mkI (C:Int) C rfl oM W
 go_enter Tryz.func62,Tryz.ntmps62;go_upto_block 0 with(fail)
 refine zB ?_;intro W0 hW0;obtain⟨hB0,br,bA,hs0⟩:=qI hW0;go_wp2;go_loopw [5,6] (fun A iv wr=>∃(k:Nat) (bs:List Nat),k<=R/\iv= .int .i64 k/\zS wr (w.heap.size+1) A C bs (zAN k C)/\Below w.heap.size w wr/\Blk wr w.heap.size 28 #[.int .i64 0,.int .i64 0,.slice none 0 0]) (fun _ iv _=>R-(intOf iv).toNat)
 case atStart=>
  refine⟨0,[],by omega,rfl,⟨⟨by simp[yB],.inr ⟨w.heap.size+1,0,#[],rfl,xgf _,bA,xgf _,by simp[maxLen],rfl,rfl⟩⟩,rfl,fun k b r h=>by simp at h,by simp,by omega⟩,hB0,br⟩
 case round=>
  obtain⟨k,bs,hk,rfl,ho,hb,br⟩:=hrel;have hbl:bs.length=k:=by rw[<-ho.len];simp[zAN]
  by_cases hlt:k<R
  ·have hmk:=hmk wr
   have hb2:Below wr.heap.size wr ((wr.alloc (.cells (zeroCells C) tI)).alloc (.cells #[.slice (some ⟨wr.heap.size,0,none⟩) C C] tR)):=((Below.refl _ _).alloc (xgf _) _).alloc sI _;have hblk:Blk ((wr.alloc (.cells (zeroCells C) tI)).alloc (.cells #[.slice (some ⟨wr.heap.size,0,none⟩) C C] tR)) (wr.heap.size+1) tR #[.slice (some ⟨wr.heap.size,0,none⟩) C C]:=by
    simpa using Blk.new (wr.alloc (.cells (zeroCells C) tI)) tR #[.slice (some ⟨wr.heap.size,0,none⟩) C C]
   have hrow:=(zDC wr C).below ((Below.refl (wr.alloc (.cells (zeroCells C) tI)).heap.size _).alloc (xgf _) (.cells #[.slice (some ⟨wr.heap.size,0,none⟩) C C] tR));have hfr:∀g∈bs,g≠wr.heap.size:=by
    intro g hg;obtain⟨j,hj,e⟩:=List.getElem_of_mem hg;have:=(ho.row j g _ (by rw[xga hj,e]) (xga (by rw[ho.len];exact hj))).2.2.lt;omega
   have hsz:=hb.size;have hbr:=br.lt;have ho2:=ho.below hb2;have hxx:=lx hb2;go_wp2_with (at_builtin;refine zQl rfl _ _ rfl (w.heap.size+1) u5 C bs (zAN k C) rfl ho2 (wr.heap.size+1) 1 wr.heap.size (List.replicate C 0) rfl hblk hrow sI oM hfr oM (by simp;omega) ?_;intro v' w' hown hgr hxg)
   have hown':∀g,u5.ownBlock=some g->w.heap.size+1<=g:=by
    intro g hg;rcases ho.own.2 with⟨rfl,-⟩|⟨g',cap,cur,rfl,h1,-⟩
    ·cases hg
    ·simp only[Value.ownBlock,Option.some.injEq]at hg
     omega
   have hB9:Below w.heap.size w w':=(nx hb hb2).grown hgr (by simp;omega) (fun g hg=>by have:=hown' g hg;omega);have br9:=(hgr.block _ (by simp;omega) (fun hh=>by have:=hown' _ hh.symm;omega)).trans (br.below hb2);go_roundw
   case rel=>
    refine⟨k+1,bs++ [wr.heap.size],by omega,by simp,?_,hB9,br9⟩;have:zAN (k+1) C=zAN k C++ [List.replicate C 0]:=by unfold zAN;rw[List.replicate_succ']
    rw[this];exact hown
   case measure=>simp[intOf];omega
  ·obtain rfl:k=R:=by omega
   obtain⟨c1,c2,c3,c4,c5,c6⟩:=br.three;obtain⟨ao,an,ac,rfl,a1,a2,a3,-⟩:=id ho.rows;have hsz:=hb.size;go_wp2;refine qY rfl rfl rfl (br.put3 _ _ _) ⟨_,bs,rfl,⟨hbl,_,rfl,?_⟩,zT (zT (zT hb (xgf _) 0 _) (xgf _) 1 _) (xgf _) 2 _⟩;exact(ho.keep (fun k hk=>yN _ _ k _ _ _ oM) (br.lext3 dE _ _ _)).mono (Nat.le_succ _)
def zX(R C:Nat)(f:Nat->Nat->Int):List (List Int):=(List.range R).map fun i=>(List.range C).map (f i)
def ent(M:List (List Int))(i j:Nat):Int:=(M.getD i []).getD j 0
theorem qK{R C:Nat}{f g:Nat->Nat->Int}(h:∀i,i<R->∀j,j<C->f i j=g i j):zX R C f=zX R C g:=by
 unfold zX;refine List.map_congr_left fun i hi=>List.map_congr_left fun j hj=>h i (List.mem_range.1 hi) j (List.mem_range.1 hj)
theorem zAW(R C:Nat)(f:Nat->Nat->Int){i:Nat}(hi:i<R):(zX R C f)[i]?=some ((List.range C).map (f i)):=by
 simp[zX,hi]
theorem yU{R C:Nat}{f:Nat->Nat->Int}{i j:Nat}(hi:i<R)(hj:j<C):ent (zX R C f) i j=f i j:=by
 unfold ent;rw[zBM (zAW R C f hi)];simp[xgb,hj]
theorem zAV(R C:Nat)(f:Nat->Nat->Int):jK R C (zX R C f):=by
 refine⟨by simp[zX],fun r hr=>?_⟩;unfold zX at hr;obtain⟨i,-,rfl⟩:=List.mem_map.1 hr;simp
theorem zAU{M:List (List Int)}{i j:Nat}{r:List Int}{z:Int}(h1:M[i]?=some r)(h2:r[j]?=some z):ent M i j=z:=by
 unfold ent;rw[zBM h1,zBM h2]
theorem zKS{R C:Nat}{M:List (List Int)}(h:jK R C M):M=zX R C (ent M):=by
 apply List.ext_getElem
 ·rw[h.1];simp[zX]
 ·intro i h1 h2
  have hi:i<R:=by rw[<-h.1];exact h1
  have e1:M[i]?=some M[i]:=xga h1;have hl:=h.2 _ (xgd e1);apply List.ext_getElem
  ·rw[hl];simp[zX]
  ·intro j h3 h4
   have:=zAU e1 (xga h3);simp[zX,this]
theorem zCO(R C:Nat):zAN R C=zX R C (fun _ _=>0):=by
 unfold zAN zX;apply List.ext_getElem
 ·simp
 ·intro i h1 h2
  apply List.ext_getElem
  ·simp
  ·intro j h3 h4
   simp
def zLQ(M:List (List Int))(i j:Nat)(z:Int):List (List Int):=M.set i ((M.getD i []).set j z)
theorem zB8{R C:Nat}{f:Nat->Nat->Int}{i j:Nat}(z:Int)(hi:i<R)(hj:j<C):zLQ (zX R C f) i j z=zX R C (fun i' j'=>if i'=i/\j'=j then z else f i' j'):=by
 unfold zLQ;rw[zBM (zAW R C f hi)];apply List.ext_getElem
 ·simp[zX]
 ·intro a h1 h2
  have ha:a<R:=by simpa[zX]using h2
  by_cases e:a=i
  ·subst e
   rw[List.getElem_set_self];apply List.ext_getElem
   ·simp[zX]
   ·intro b h3 h4
    by_cases e2:b=j
    ·subst e2;simp[zX]
    ·have e3:j≠b:=fun h=>e2 h.symm
     simp[zX,e2,e3]
  ·have e3:i≠a:=fun h=>e h.symm
   rw[List.getElem_set_ne e3];simp[zX,e]
theorem zS.set{w:World}{base:Nat}{A:Value}{C:Nat}{bs:List Nat}{M:List (List Int)}(h:zS w base A C bs M){i j b:Nat}(hb:bs[i]?=some b)(hj:j<C)
  {s:Bool} {a:Option Addr} {l c:Nat} {z:Int} (hv:zH w (.agg #[.bool s,.slice a l c]) z):
  zS ((w.setCell ⟨b,j*2,none⟩ (.bool s)).setCell ⟨b,j*2+1,none⟩ (.slice a l c)) base A C bs (zLQ M i j z)/\yO w ((w.setCell ⟨b,j*2,none⟩ (.bool s)).setCell ⟨b,j*2+1,none⟩ (.slice a l c))/\base<=b:=by
 have hib:=(xge.1 hb).1;have hiM:i<M.length:=by rw[h.len];exact hib
 obtain⟨r1,r2,r3⟩:=h.row i b M[i] hb (xga hiM);obtain⟨s1,s2⟩:=r3.set (k:=j) (by rw[r2];exact hj) hv;refine⟨⟨⟨h.own.1,?_⟩,by simp[zLQ,h.len],?_,h.nodup,h.cb⟩,s2,r1⟩
 ·rcases h.own.2 with h1|⟨g,cap,cur,e1,e2,e3,e4⟩
  ·exact .inl h1
  ·refine .inr ⟨g,cap,cur,e1,e2,?_,e4⟩
   have hne:g≠b:=by
    have:=zDA h.own r3;rw[e1]at this;simp only[Value.ownBlock]at this;intro hh;exact this (by rw[hh])
   exact(zR w b _ _ g _ _ hne).trans e3
 ·intro k b' r hk hr
  by_cases e:k=i
  ·subst e
   rw[hb]at hk;injection hk with hk
   subst hk;unfold zLQ at hr;rw[List.getElem?_set_self hiM]at hr;injection hr with hr
   subst hr;rw[zBM (xga hiM)];exact⟨r1,by rw[List.length_set];exact r2,s1⟩
  ·unfold zLQ at hr
   rw[List.getElem?_set_ne (Ne.symm e)]at hr;obtain⟨f1,f2,f3⟩:=h.row k b' r hk hr;have hkb:=(xge.1 hk).1;have hne:b'≠b:=by
    intro hh;subst hh;have h1:=(xge.1 hk).2;have h2:=(xge.1 hb).2;exact e ((List.getElem_inj h.nodup).1 (h1.trans h2.symm))
   exact⟨f1,f2,f3.old (zR w b _ _ b' _ _ hne) s2⟩
theorem zS.at_{w:World}{base:Nat}{ao:Option Addr}{n cap C:Nat}{bs:List Nat}{M:List (List Int)}(h:zS w base (.slice ao n cap) C bs M){i:Nat}(hi:i<bs.length):
  ∃g b,ao=some ⟨g,0,none⟩/\g<w.heap.size/\bs[i]?=some b/\b<w.heap.size/\w.cell? ⟨g,i,none⟩=some (.slice (some ⟨b,0,none⟩) C C)/\n=bs.length:=by
 rcases h.own.2 with⟨e,h0⟩|⟨g,cap',cur,e,e2,e3,e4,e5,e6,e7⟩
 ·omega
 ·injection e with e8 e9 e10
  subst e8;have hM:i<M.length:=by rw[h.len];exact hi
  have hr:=h.row i bs[i] M[i] (xga hi) (xga hM);refine⟨g,bs[i],rfl,(Array.getElem?_eq_some_iff.1 e3).1,xga hi,hr.2.2.lt,?_,e9⟩;rw[cell_of_row w g i cur _ _ e3];have:(yB C bs)[i]?=some (.slice (some ⟨bs[i],0,none⟩) C C):=by simp[yB,hi]
  rw[<-e7,List.getElem?_take_of_lt oM]at this;simpa using this
theorem zS.cellAt{w:World}{base:Nat}{A:Value}{C:Nat}{bs:List Nat}{M:List (List Int)}(h:zS w base A C bs M){i j b:Nat}(hb:bs[i]?=some b)(hj:j<C):
  ∃s a l c,w.cell? ⟨b,j*2,none⟩=some (.bool s)/\w.cell? ⟨b,j*2+1,none⟩=some (.slice a l c)/\w.frozen? ⟨b,j*2,none⟩=false/\w.frozen? ⟨b,j*2+1,none⟩=false/\zH w (.agg #[.bool s,.slice a l c]) (ent M i j):=by
 have hib:=(xge.1 hb).1;have hiM:i<M.length:=by rw[h.len];exact hib
 obtain⟨r1,r2,r3⟩:=h.row i b M[i] hb (xga hiM);have hjr:j<M[i].length:=by rw[r2];exact hj
 have:=r3.cell (xga hjr);rwa[zAU (xga hiM) (xga hjr)]
def zBc(f:Nat->Nat->Int)(i j:Nat):Nat->Nat->Int:=fun a b=>if a<i∨(a=i/\b<j)then f a b else 0
theorem zBd(R C:Nat)(f:Nat->Nat->Int):zAN R C=zX R C (zBc f 0 0):=by
 rw[zCO];exact qK fun i _ j _=>by unfold zBc;rw[if_neg oM]
theorem zDI{R C:Nat}{f:Nat->Nat->Int}{i:Nat}:zX R C (zBc f i C)=zX R C (zBc f (i+1) 0):=
 qK fun a _ b hb=>by
  unfold zBc;by_cases h:a<i∨(a=i/\b<C)
  ·rw[if_pos h,if_pos oM]
  ·rw[if_neg h,if_neg oM]
theorem zDH{R C:Nat}{f:Nat->Nat->Int}:zX R C (zBc f R 0)=zX R C f:=
 qK fun a ha b _=>by unfold zBc;rw[if_pos oM]
theorem zDJ{R C:Nat}{f:Nat->Nat->Int}{i j:Nat}(hi:i<R)(hj:j<C):zLQ (zX R C (zBc f i j)) i j (f i j)=zX R C (zBc f i (j+1)):=by
 rw[zB8 _ hi hj];exact qK fun a _ b _=>by
  unfold zBc;by_cases h:a=i/\b=j
  ·obtain⟨rfl,rfl⟩:=h
   rw[if_pos ⟨rfl,rfl⟩,if_pos oM]
  ·rw[if_neg h]
   by_cases h2:a<i∨(a=i/\b<j)
   ·rw[if_pos h2,if_pos oM]
   ·rw[if_neg h2,if_neg oM]
theorem zS.lts{w:World}{base:Nat}{A:Value}{C:Nat}{bs:List Nat}{M:List (List Int)}(h:zS w base A C bs M):∀(i b:Nat),bs[i]?=some b->b<w.heap.size:=by
 intro i b hb;have hib:=(xge.1 hb).1;have hiM:i<M.length:=by rw[h.len];exact hib
 exact(h.row i b M[i] hb (xga hiM)).2.2.lt
theorem zHy(v kv:Value)(R C:Nat)(M:List (List Int))(k:Int)(w:World)(h:zHP w v R C M)(hF:jK R C M)(hk:zH w kv k)(hR:R<=1000000)(hC:C<=1000000)(hS:∀r∈M,∀z∈r,Sm z)(hks:Sm k):
  Calls Tryz.prog 28 #[v,kv] w (zAs w R C (zX R C (fun i j=>ent M i j*k))):=by
 obtain⟨A,rfl,h⟩:=h;obtain⟨ao,n,cap,rfl,e2,e3,e4,-⟩:=id h;have HX:=xgw e2;have HS:=xgv hS;have HK:=xgv hks;have HF:=xgv hF;obtain rfl:n=R:=by rw[<-e2,hF.1]
 have hkv:=hk;obtain⟨kn,ka,kl,kc,kx,rfl,hkx⟩:=id hk;have HKX:=xgw hkx;clear e2 hS hks hF hkx;obtain⟨f,hf⟩:∃f:Nat->Nat->Int,(fun i j=>ent M i j*k)=f:=⟨_,rfl⟩;rw[hf];have hfe:∀i j,f i j=ent M i j*k:=fun i j=>by rw[<-hf]
 clear hf;have HFE:=xgv hfe;clear hfe;go_enter Tryz.func28,Tryz.ntmps28;go_upto_region 1 with(fail)
 refine zB ?_;intro W0 hW0;obtain⟨hB0,bx1,bx2,br,hs0⟩:=yG hW0;obtain⟨c1,c2,c3,c4,c5,c6⟩:=bx1.three;go_wp2_with fail
 refine(zA4 n C W0 hR hC).mono ?_;rintro e w2 ⟨u,bs,rfl,⟨hbl,A2,rfl,ho⟩,hb2⟩;obtain⟨oo,on,oc,rfl,-,-,-,-⟩:=id ho.rows;have hlts:=ho.lts;go_upto_region 2 with(fail)
 refine zB ?_;intro W3 hW3;obtain⟨hB3,T5,hs3⟩:=zK hW3;have bx1:=(bx1.below hb2).below hB3;have bx2:=(bx2.below hb2).below hB3;have br:=(br.below hb2).below hB3;have ho:=ho.below hB3;rw[zBd n C f]at ho;have hBt:=nx (nx hB0 hb2) hB3;have q2:=hb2.size;clear hW3 hW0 c1 c2 c3 c4 c5 c6;go_wp2;go_loopw [6] (fun iv wr=>∃i:Nat,i<=n/\iv= .int .i64 i/\Below w.heap.size w wr/\Blk wr w.heap.size 28 #[.int .i64 n,.int .i64 C,.slice ao n cap]/\Blk wr (w.heap.size+1) 35 #[.bool kn,.slice ka kl kc]∧
  Blk wr (w.heap.size+1+1) 28 #[.int .i64 0,.int .i64 0,.slice none 0 0]/\Blk wr w2.heap.size 28 #[.int .i64 n,.int .i64 C,.slice oo on oc]/\zS wr W0.heap.size (.slice oo on oc) C bs (zX n C (zBc f i 0))) (fun iv _=>n-(intOf iv).toNat)
 case atStart=>exact⟨0,by omega,rfl,hBt,bx1,bx2,br,T5,ho⟩
 case round=>
  obtain⟨i,hi,rfl,hb,bx1,bx2,br,T5,ho⟩:=hrel;obtain⟨c1,c2,c3,c4,c5,c6⟩:=bx1.three;by_cases hlt:i<n
  ·go_wp2
   clear c1 c2 c3 c4 c5 c6;go_loopw [7] (fun jv wr=>∃j:Nat,j<=C/\jv= .int .i64 j/\Below w.heap.size w wr/\Blk wr w.heap.size 28 #[.int .i64 n,.int .i64 C,.slice ao n cap]/\Blk wr (w.heap.size+1) 35 #[.bool kn,.slice ka kl kc]∧
    Blk wr (w.heap.size+1+1) 28 #[.int .i64 0,.int .i64 0,.slice none 0 0]/\Blk wr w2.heap.size 28 #[.int .i64 n,.int .i64 C,.slice oo on oc]/\zS wr W0.heap.size (.slice oo on oc) C bs (zX n C (zBc f i j))) (fun jv _=>C-(intOf jv).toNat)
   case atStart=>exact⟨0,by omega,rfl,hb,bx1,bx2,br,T5,ho⟩
   case round=>
    obtain⟨j,hj,rfl,hb,bx1,bx2,br,T5,ho⟩:=hrel;obtain⟨c1,c2,c3,c4,c5,c6⟩:=bx1.three;by_cases hjc:j<C
    ·obtain⟨b,o,ra,rn,rc,zs,rfl,hbl1,hz,p1,hv⟩:=(h.below hb).row (k:=i) (by rw[HX.out];exact hlt)
     have hzl:=HF.out.2 zs (xgd hz);have hvl:=hv.len;obtain rfl:rn=C:=by omega
     obtain⟨b',z,s,a,l,c,rfl,hbl',hzk,q1,q2',hzv⟩:=hv.cell (k:=j) oM;have hent:=xgw (zAU hz hzk);have SZ:qF (Sm z):=⟨HS.out _ (xgd hz) _ (xgd hzk)⟩;clear hz hzk hzl;obtain⟨g,bo,rfl,hg,hbo,hbo2,o1,ho3⟩:=ho.at_ (i:=i) oM;obtain⟨d1,d2,d3,d4⟩:=bx2.two;obtain⟨f1,f2,f3,f4,f5,f6⟩:=T5.three;have hio:i<on:=by omega
     have HO3:=xgw ho3;clear ho3;have lt1:=bx1.lt;have lt2:=bx2.lt;have lt5:=T5.lt;have hkw:=hkv.ext (lx hb);go_upto_region 8 with(fail)
     refine zC 17 rfl (RI wr (wr.heap.size) _ 35
       [VP 0 25 w2.heap.size 2,VSl 1 26 g on oc,VN 2 27 i,VP 3 28 g i,VSl 4 29 bo rn rn,VN 5 30 j,VP 6 31 w.heap.size 2,E 7 32 (.slice (some ⟨b,o,none⟩) n cap),VN 8 33 i,VP 9 34 b (o+i),VSl 10 35 b' rn rc,VN 11 36 j,VP 12 37 b' (j*2),E 13 38 (.agg #[.bool s,.slice a l c]),E 14 39 (.agg #[.bool kn,.slice ka kl kc]),EI 15 40 (z*k),VP 16 41 bo (j*2)] [] []) kR RI.start (RI.fin kR ?fin1) ?steps1
     case steps1=>
      refine⟨?_,?_,?_,?_,?_,?_,?_,?_,?_,?_,?_,?_,?_,?_,?_,?_,?_,trivial⟩<;>(intro L T wS hL hd hcl hI K hK;try refine zA rfl ?_)
      ·exact xgs (hI.k 5 rfl kR)
      ·have zt0:=hI.e mm0 (hd 0)
       have cc0:=hI.cell f3 oM nom;exact xgu
      ·exact xgs (hI.k 6 rfl kR)
      ·exact xgt (hI.e mm1 (hd 1)) (hI.e mm2 (hd 2))
      ·have zt3:=hI.e mm3 (hd 3)
       have cc0:=hI.cell o1 oM nom;exact xgu
      ·exact xgs (hI.k 7 rfl kR)
      ·exact xgs (hI.k 2 rfl kR)
      ·have zt6:=hI.e mm6 (hd 6)
       have cc0:=hI.cell c3 oM nom;exact xgu
      ·exact xgs (hI.k 6 rfl kR)
      ·exact xgt (hI.e mm7 (hd 7)) (hI.e mm8 (hd 8))
      ·have zt9:=hI.e mm9 (hd 9)
       have cc0:=hI.cell p1 oM nom;exact xgu
      ·exact xgs (hI.k 7 rfl kR)
      ·exact xgt (hI.e zAC (hd 10)) (hI.e zAJ (hd 11))
      ·have zt12:=hI.e zAo (hd 12)
       have cc0:=hI.cell q1 oM nom;have cc1:=hI.cell q2' oM nom;exact xgu
      ·have zt:=hI.k 3 rfl kR
       have cc0:=hI.cell d1 oM nom;have cc1:=hI.cell d2 oM nom;exact xgu
      ·have zt13:=hI.e zCF (hd 13)
       have zt14:=hI.e zBp (hd 14);go_simp;refine(zAE _ _ z k _ (hzv.ext hI.lext) (hkw.ext hI.lext) SZ.out HK.out).mono ?_;exact xgo
      ·exact xgt (hI.e mm4 (hd 4)) (hI.e mm5 (hd 5))
     intro w9 hlw9 hbw9 holdw9 T hT;simp only[Fin,E,EI,VP,VSl,VN,xgg,xgh,xgi,xgj]at hT;obtain⟨va15,ha15,rfl⟩:=hT;simp only[xgl,xgk];obtain⟨pn,pa,pl,pc,px,rfl,hpx⟩:=id ha15;have HPX:=xgw hpx;clear hpx;have ho9:=ho.below hbw9;obtain⟨sn,sa,sl,sc,z1,z2,z3,z4,-⟩:=ho9.cellAt hbo hjc;have hbolt:=hlts i bo hbo;have hset:=ho9.set hbo hjc ha15;go_wp2;go_roundw
     case rel=>
      have hq:z*k=f i j:=by rw[HFE.out,hent.out]
      rw[hq,zDJ hlt hjc]at hset;exact⟨j+1,by omega,by simp,zT (zT (nx hb hbw9) oM _ _) oM _ _,(zR _ _ _ _ _ _ _ oM).trans (bx1.below hbw9),(zR _ _ _ _ _ _ _ oM).trans (bx2.below hbw9),(zR _ _ _ _ _ _ _ oM).trans (br.below hbw9),(zR _ _ _ _ _ _ _ oM).trans (T5.below hbw9),hset.1⟩
     case measure=>simp[intOf];omega
    ·obtain rfl:j=C:=by omega
     rw[zDI]at ho;go_wp2;go_roundw
     case rel=>exact⟨i+1,by omega,by simp,hb,bx1,bx2,br,T5,ho⟩
     case measure=>simp[intOf];omega
  ·obtain rfl:i=n:=by omega
   rw[zDH]at ho;obtain⟨f1,f2,f3,f4,f5,f6⟩:=T5.three;obtain⟨r1,r2,r3,r4,r5,r6⟩:=br.three;have q1:=hB0.size;go_wp2;refine qY rfl rfl rfl (br.put3 _ _ _) ⟨_,bs,rfl,⟨hbl,_,rfl,?_⟩,zT (zT (zT hb oM 0 _) oM 1 _) oM 2 _⟩;exact(ho.keep (fun k hk=>yN _ _ k _ _ _ oM) (br.lext3 dE _ _ _)).mono q1
theorem zHx(v kv:Value)(R C:Nat)(M:List (List Int))(k:Int)(w:World)(h:yP w v R C M)(hF:jK R C M)(hk:zH w kv k)(hR:R<=1000000)(hC:C<=1000000)(hS:∀r∈M,∀z∈r,Sm z)(hks:Sm k):
  Calls Tryz.prog 28 #[v,kv] w (zAs w R C (zX R C (fun i j=>ent M i j*k))):=zHy v kv R C M k w h.off hF hk hR hC hS hks
def idf(i j:Nat):Int:=if i=j then 1 else 0
def zNV(k:Nat)(i j:Nat):Int:=if i=j/\i<k then 1 else 0
def zLc(f:Nat->Int):Nat->Int
 |0=>0
 |k+1=>zLc f k+f k
def zCj(A B:List (List Int))(m i j:Nat):Int:=zLc (fun t=>ent A i t*ent B t j) m
def zCt(A B:List (List Int))(R m C:Nat):Prop:=
 ∀i,i<R->∀j,j<C->∀k,k<m->Sm (ent A i k)/\Sm (ent B k j)/\Sm (ent A i k*ent B k j)/\Sm (zCj A B k i j)
def zLw(f:Nat->Nat->Int)(i j:Nat)(x:Int):Nat->Nat->Int:=fun a b=>if a=i/\b=j then x else zBc f i j a b
theorem zJk{R C:Nat}{f:Nat->Nat->Int}{i j:Nat}:zX R C (zBc f i j)=zX R C (zLw f i j 0):=
 qK fun a _ b _=>by
  unfold zLw;by_cases h:a=i/\b=j
  ·obtain⟨rfl,rfl⟩:=h
   rw[if_pos ⟨rfl,rfl⟩];unfold zBc;rw[if_neg oM]
  ·rw[if_neg h]
theorem zNI{R C:Nat}{f:Nat->Nat->Int}{i j:Nat}{x y:Int}(hi:i<R)(hj:j<C):zLQ (zX R C (zLw f i j x)) i j y=zX R C (zLw f i j y):=by
 rw[zB8 _ hi hj];exact qK fun a _ b _=>by
  unfold zLw;by_cases h:a=i/\b=j
  ·rw[if_pos h,if_pos h]
  ·rw[if_neg h,if_neg h,if_neg h]
theorem zNH{R C:Nat}{f:Nat->Nat->Int}{i j:Nat}:zX R C (zLw f i j (f i j))=zX R C (zBc f i (j+1)):=
 qK fun a _ b _=>by
  unfold zLw;by_cases h:a=i/\b=j
  ·obtain⟨rfl,rfl⟩:=h
   rw[if_pos ⟨rfl,rfl⟩];unfold zBc;rw[if_pos oM]
  ·rw[if_neg h]
   unfold zBc;by_cases h2:a<i∨(a=i/\b<j)
   ·rw[if_pos h2,if_pos oM]
   ·rw[if_neg h2,if_neg oM]
theorem zLf{f:Nat->Nat->Int}{i j:Nat}{x:Int}:zLw f i j x i j=x:=by unfold zLw;rw[if_pos ⟨rfl,rfl⟩]
theorem zH8{W:World}{r:Nat}{v:Array Value}(hb:Blk W r 28 v)(h3:v.size=3):(loadVar 28 ⟨r,0,none⟩).run Tryz.prog W= .ok (.agg v) W:=
 run_loadVar_row W r _ _ v _ _ hb Tryz.underlying28 rfl (by rw[Tryz.sizeM,h3])
theorem zCI{fn:Func}{p u:Tmp}(h:fn.results=#[.cell p 28,.tmp u])(tmps:Array Value){W:World}{r:Nat}{v:Array Value}
  (hp:tmps.getD p undef= .pointer (some ⟨r,0,none⟩)) (hb:Blk W r 28 v) (h3:v.size=3):
  (results fn tmps).run Tryz.prog W= .ok (.tuple #[.agg v,tmps.getD u undef]) W:=by
 have hp':tmps[p]?.getD undef= .pointer (some ⟨r,0,none⟩):=by simpa using hp
 simp[results,h,hp',asAddr,zH8 hb h3]
theorem zLC(v1 v2:Value)(R m C:Nat)(M1 M2:List (List Int))(w:World)(h1:yP w v1 R m M1)(h2:yP w v2 m C M2)(hF1:jK R m M1)(hF2:jK m C M2)(hR:R<=1000000)(hm:m<=1000000)(hC:C<=1000000)(hS:zCt M1 M2 R m C):
  Calls Tryz.prog 135 #[v1,v2] w fun e w'=>∃v bs,e= .returned (.tuple #[v,.int .i64 0])/\zOv w' w.heap.size v R C bs (zX R C (zCj M1 M2 m))/\Below w.heap.size w w':=by
 obtain⟨A1,rfl,h1⟩:=h1;obtain⟨A2,rfl,h2⟩:=h2;obtain⟨ao,n,cap,rfl,e2,e3,e4,-⟩:=id h1;obtain⟨bo,q,bcap,rfl,g2,g3,g4,-⟩:=id h2;have HX:=xgw e2;have HY:=xgw g2;have HS:=xgv hS;have HF1:=xgv hF1;have HF2:=xgv hF2;obtain rfl:n=R:=by rw[<-e2,hF1.1]
 obtain rfl:q=m:=by rw[<-g2,hF2.1]
 clear e2 g2 hS hF1 hF2;obtain⟨f,hf⟩:∃f:Nat->Nat->Int,zCj M1 M2 q=f:=⟨_,rfl⟩;rw[hf];have HFE:qF (∀i j,f i j=zCj M1 M2 q i j):=⟨fun i j=>by rw[<-hf]⟩;clear hf;go_enter Tryz.func135,Tryz.ntmps135;go_upto_region 1 with(fail)
 refine zB ?_;intro W0 hW0;obtain⟨hB0,bx1,bx2,br,hs0⟩:=yG hW0;obtain⟨c1,c2,c3,c4,c5,c6⟩:=bx1.three;obtain⟨d1,d2,d3,d4,d5,d6⟩:=bx2.three;go_wp2_with fail
 refine(zA4 n C W0 hR hC).mono ?_;rintro e w2 ⟨u,bs,rfl,⟨hbl,A3,rfl,ho⟩,hb2⟩;obtain⟨oo,on,oc,rfl,-,-,-,-⟩:=id ho.rows;have hlts:=ho.lts;go_upto_region 4 with(fail)
 refine zB ?_;intro W3 hW3;obtain⟨hB3,T5,hs3⟩:=zK hW3;have bx1:=(bx1.below hb2).below hB3;have bx2:=(bx2.below hb2).below hB3;have br:=(br.below hb2).below hB3;have ho:=ho.below hB3;rw[zBd n C f]at ho;have hBt:=nx (nx hB0 hb2) hB3;have q2:=hb2.size;clear hW3 hW0 c1 c2 c3 c4 c5 c6 d1 d2 d3 d4 d5 d6;go_wp2;go_loopw [7] (fun iv wr=>∃i:Nat,i<=n/\iv= .int .i64 i/\Below w.heap.size w wr/\Blk wr w.heap.size 28 #[.int .i64 n,.int .i64 q,.slice ao n cap]/\Blk wr (w.heap.size+1) 28 #[.int .i64 q,.int .i64 C,.slice bo q bcap]∧
  Blk wr (w.heap.size+1+1) 28 #[.int .i64 0,.int .i64 0,.slice none 0 0]/\Blk wr w2.heap.size 28 #[.int .i64 n,.int .i64 C,.slice oo on oc]/\zS wr W0.heap.size (.slice oo on oc) C bs (zX n C (zBc f i 0))) (fun iv _=>n-(intOf iv).toNat)
 case atStart=>exact⟨0,by omega,rfl,hBt,bx1,bx2,br,T5,ho⟩
 case round=>
  obtain⟨i,hi,rfl,hb,bx1,bx2,br,T5,ho⟩:=hrel;obtain⟨c1,c2,c3,c4,c5,c6⟩:=bx1.three;by_cases hlt:i<n
  ·go_wp2
   clear c1 c2 c3 c4 c5 c6;go_loopw [8] (fun jv wr=>∃j:Nat,j<=C/\jv= .int .i64 j/\Below w.heap.size w wr/\Blk wr w.heap.size 28 #[.int .i64 n,.int .i64 q,.slice ao n cap]/\Blk wr (w.heap.size+1) 28 #[.int .i64 q,.int .i64 C,.slice bo q bcap]∧
    Blk wr (w.heap.size+1+1) 28 #[.int .i64 0,.int .i64 0,.slice none 0 0]/\Blk wr w2.heap.size 28 #[.int .i64 n,.int .i64 C,.slice oo on oc]/\zS wr W0.heap.size (.slice oo on oc) C bs (zX n C (zBc f i j))) (fun jv _=>C-(intOf jv).toNat)
   case atStart=>exact⟨0,by omega,rfl,hb,bx1,bx2,br,T5,ho⟩
   case round=>
    obtain⟨j,hj,rfl,hb,bx1,bx2,br,T5,ho⟩:=hrel;obtain⟨d1,d2,d3,d4,d5,d6⟩:=bx2.three;by_cases hjc:j<C
    ·go_wp2
     clear d1 d2 d3 d4 d5 d6;rw[zJk]at ho;go_loopw [9] (fun kv wr=>∃k:Nat,k<=q/\kv= .int .i64 k/\Below w.heap.size w wr/\Blk wr w.heap.size 28 #[.int .i64 n,.int .i64 q,.slice ao n cap]/\Blk wr (w.heap.size+1) 28 #[.int .i64 q,.int .i64 C,.slice bo q bcap]∧
      Blk wr (w.heap.size+1+1) 28 #[.int .i64 0,.int .i64 0,.slice none 0 0]/\Blk wr w2.heap.size 28 #[.int .i64 n,.int .i64 C,.slice oo on oc]/\zS wr W0.heap.size (.slice oo on oc) C bs (zX n C (zLw f i j (zCj M1 M2 k i j)))) (fun kv _=>q-(intOf kv).toNat)
     case atStart=>exact⟨0,by omega,rfl,hb,bx1,bx2,br,T5,ho⟩
     case round=>
      obtain⟨k,hk,rfl,hb,bx1,bx2,br,T5,ho⟩:=hrel;obtain⟨c1,c2,c3,c4,c5,c6⟩:=bx1.three;by_cases hkq:k<q
      ·obtain⟨d1,d2,d3,d4,d5,d6⟩:=bx2.three
       obtain⟨b,ra,rn,rc,zs,rfl,hbl1,hz,p1,hv⟩:=(h1.below hb).row (k:=i) (by rw[HX.out];exact hlt);have hzl:=HF1.out.2 zs (xgd hz);have hvl:=hv.len;obtain⟨b',z,s,a,l,c,rfl,hbl',hzk,q1,q2',hzv⟩:=hv.cell (k:=k) oM;have hkrn:k<rn:=by omega
       obtain⟨y,ya,yn,yc,ys,rfl,hyl1,hy,y1,hyv⟩:=(h2.below hb).row (k:=k) (by rw[HY.out];exact hkq);have hyl:=HF2.out.2 ys (xgd hy);have hyvl:=hyv.len;obtain⟨y',x,xs,xa,xl,xc,rfl,hyl',hyk,x1,x2,hxv⟩:=hyv.cell (k:=j) oM;have hjyn:j<yn:=by omega
       have he1:=xgw (zAU hz hzk);have he2:=xgw (zAU hy hyk);have HSM:=xgv (HS.out i hlt j hjc k hkq);clear hz hzk hzl hy hyk hyl hvl hyvl;obtain⟨g,bo',rfl,hg,hbo,hbo2,o1,ho3⟩:=ho.at_ (i:=i) oM;obtain⟨us,ua,ul,uc,u1,u2,u3,u4,uv⟩:=ho.cellAt hbo hjc;rw[yU hlt hjc,zLf]at uv;obtain⟨f1,f2,f3,f4,f5,f6⟩:=T5.three;have hio:i<on:=by omega
       have HO3:=xgw ho3;clear ho3;have lt1:=bx1.lt;have lt2:=bx2.lt;have lt5:=T5.lt;rw[<-he1.out]at hzv;rw[<-he2.out]at hxv;go_upto_region 13 with(fail)
       refine zC 33 rfl (RI wr (wr.heap.size) _ 35
         [VP 0 39 w2.heap.size 2,VSl 1 40 g on oc,VN 2 41 i,VP 3 42 g i,VSl 4 43 bo' C C,VN 5 44 j,VP 6 45 w2.heap.size 2,VSl 7 46 g on oc,VN 8 47 i,VP 9 48 g i,VSl 10 49 bo' C C,VN 11 50 j,VP 12 51 bo' (j*2),E 13 52 (.agg #[.bool us,.slice ua ul uc]),VP 14 53 w.heap.size 2,VSl 15 54 b n cap,VN 16 55 i,VP 17 56 b i,VSl 18 57 b' rn rc,VN 19 58 k,VP 20 59 b' (k*2),E 21 60 (.agg #[.bool s,.slice a l c]),VP 22 61 (w.heap.size+1) 2,VSl 23 62 y q bcap,VN 24 63 k,VP 25 64 y k,VSl 26 65 y' yn yc,VN 27 66 j,VP 28 67 y' (j*2),E 29 68 (.agg #[.bool xs,.slice xa xl xc]),EI 30 69 (ent M1 i k*ent M2 k j),EI 31 70 (zCj M1 M2 k i j+ent M1 i k*ent M2 k j),VP 32 71 bo' (j*2)] [] []) kR RI.start (RI.fin kR ?fin1) ?steps1
       case steps1=>
        refine⟨?_,?_,?_,?_,?_,?_,?_,?_,?_,?_,?_,?_,?_,?_,?_,?_,?_,?_,?_,?_,?_,?_,?_,?_,?_,?_,?_,?_,?_,?_,?_,?_,?_,trivial⟩<;>(intro L T wS hL hd hcl hI K hK;try refine zA rfl ?_)
        ·exact xgs (hI.k 6 rfl kR)
        ·have zt0:=hI.e mm0 (hd 0)
         have cc0:=hI.cell f3 oM nom;exact xgu
        ·exact xgs (hI.k 7 rfl kR)
        ·exact xgt (hI.e mm1 (hd 1)) (hI.e mm2 (hd 2))
        ·have zt3:=hI.e mm3 (hd 3)
         have cc0:=hI.cell o1 oM nom;exact xgu
        ·exact xgs (hI.k 8 rfl kR)
        ·exact xgs (hI.k 6 rfl kR)
        ·have zt6:=hI.e mm6 (hd 6)
         have cc0:=hI.cell f3 oM nom;exact xgu
        ·exact xgs (hI.k 7 rfl kR)
        ·exact xgt (hI.e mm7 (hd 7)) (hI.e mm8 (hd 8))
        ·have zt9:=hI.e mm9 (hd 9)
         have cc0:=hI.cell o1 oM nom;exact xgu
        ·exact xgs (hI.k 8 rfl kR)
        ·exact xgt (hI.e zAC (hd 10)) (hI.e zAJ (hd 11))
        ·have zt12:=hI.e zAo (hd 12)
         have cc0:=hI.cell u1 oM nom;have cc1:=hI.cell u2 oM nom;exact xgu
        ·exact xgs (hI.k 2 rfl kR)
        ·have zt14:=hI.e zBp (hd 14)
         have cc0:=hI.cell c3 oM nom;exact xgu
        ·exact xgs (hI.k 7 rfl kR)
        ·exact xgt (hI.e zCS (hd 15)) (hI.e zDs (hd 16))
        ·have zt17:=hI.e zEs (hd 17)
         have cc0:=hI.cell p1 oM nom;exact xgu
        ·exact xgs (hI.k 9 rfl kR)
        ·exact xgt (hI.e zCT (hd 18)) (hI.e zEt (hd 19))
        ·have zt20:=hI.e zEZ (hd 20)
         have cc0:=hI.cell q1 oM nom;have cc1:=hI.cell q2' oM nom;exact xgu
        ·exact xgs (hI.k 3 rfl kR)
        ·have zt22:=hI.e zFT (hd 22)
         have cc0:=hI.cell d3 oM nom;exact xgu
        ·exact xgs (hI.k 9 rfl kR)
        ·exact xgt (hI.e zFU (hd 23)) (hI.e zHM (hd 24))
        ·have zt25:=hI.e zEu (hd 25)
         have cc0:=hI.cell y1 oM nom;exact xgu
        ·exact xgs (hI.k 8 rfl kR)
        ·exact xgt (hI.e zIX (hd 26)) (hI.e zJL (hd 27))
        ·have zt28:=hI.e zJq (hd 28)
         have cc0:=hI.cell x1 oM nom;have cc1:=hI.cell x2 oM nom;exact xgu
        ·have zt21:=hI.e zEa (hd 21)
         have zt29:=hI.e zIY (hd 29);go_simp;refine(zAE _ _ (ent M1 i k) (ent M2 k j) _ (hzv.ext hI.lext) (hxv.ext hI.lext) HSM.out.1 HSM.out.2.1).mono ?_;exact xgo
        ·have zt13:=hI.e zCF (hd 13)
         obtain⟨v30,zt30,h30⟩:=hI.vi zLv (hd 30);go_simp;refine(zBZ _ _ (zCj M1 M2 k i j) (ent M1 i k*ent M2 k j) _ (uv.ext hI.lext) h30 HSM.out.2.2.2 HSM.out.2.2.1).mono ?_;exact xgo
        ·exact xgt (hI.e mm4 (hd 4)) (hI.e mm5 (hd 5))
       intro w9 hlw9 hbw9 holdw9 T hT;simp only[Fin,E,EI,VP,VSl,VN,xgg,xgh,xgi,xgj]at hT;obtain⟨va30,ha30,va31,ha31,rfl⟩:=hT;simp only[xgl,xgk];obtain⟨pn,pa,pl,pc,px,rfl,hpx⟩:=id ha31;have HPX:=xgw hpx;clear hpx;have ho9:=ho.below hbw9;obtain⟨sn,sa,sl,sc,z1,z2,z3,z4,-⟩:=ho9.cellAt hbo hjc;have hbolt:=hlts i bo' hbo;have hset:=ho9.set hbo hjc ha31;go_wp2;go_roundw
       case rel=>
        rw[zNI hlt hjc]at hset;exact⟨k+1,by omega,by simp,zT (zT (nx hb hbw9) oM _ _) oM _ _,(zR _ _ _ _ _ _ _ oM).trans (bx1.below hbw9),(zR _ _ _ _ _ _ _ oM).trans (bx2.below hbw9),(zR _ _ _ _ _ _ _ oM).trans (br.below hbw9),(zR _ _ _ _ _ _ _ oM).trans (T5.below hbw9),hset.1⟩
       case measure=>simp[intOf];omega
      ·obtain rfl:k=q:=by omega
       rw[<-HFE.out,zNH]at ho;go_wp2;go_roundw
       case rel=>exact⟨j+1,by omega,by simp,hb,bx1,bx2,br,T5,ho⟩
       case measure=>simp[intOf];omega
    ·obtain rfl:j=C:=by omega
     rw[zDI]at ho;go_wp2;go_roundw
     case rel=>exact⟨i+1,by omega,by simp,hb,bx1,bx2,br,T5,ho⟩
     case measure=>simp[intOf];omega
  ·obtain rfl:i=n:=by omega
   rw[zDH]at ho;obtain⟨f1,f2,f3,f4,f5,f6⟩:=T5.three;obtain⟨r1,r2,r3,r4,r5,r6⟩:=br.three;have q1:=hB0.size;go_wp2;refine bodyPost_ret (zCI rfl _ rfl (br.put3 _ _ _) rfl) rfl ⟨_,bs,rfl,⟨hbl,_,rfl,?_⟩,zT (zT (zT hb oM 0 _) oM 1 _) oM 2 _⟩;exact(ho.keep (fun k hk=>yN _ _ k _ _ _ oM) (br.lext3 dE _ _ _)).mono q1
theorem zGB(v1 v2:Value)(R m C:Nat)(M1 M2:List (List Int))(w:World)(h1:yP w v1 R m M1)(h2:yP w v2 m C M2)(hF1:jK R m M1)(hF2:jK m C M2)(hR:R<=1000000)(hm:m<=1000000)(hC:C<=1000000)(hS:zCt M1 M2 R m C):
  Calls Tryz.prog 53 #[v1,v2] w (zAs w R C (zX R C (zCj M1 M2 m))):=by
 have h1':=h1;have h2':=h2;obtain⟨A1,rfl,h1⟩:=h1;obtain⟨A2,rfl,h2⟩:=h2;obtain⟨ao,n,cap,rfl,-⟩:=id h1;obtain⟨bo,q,bcap,rfl,-⟩:=id h2;have HS:=xgv hS;have HF1:=xgv hF1;have HF2:=xgv hF2;clear hS hF1 hF2;go_enter Tryz.func53,Tryz.ntmps53;go_upto_region 1 with(fail)
 refine zB ?_;intro W0 hW0;obtain⟨hB0,bx1,bx2,br,hs0⟩:=yG hW0;obtain⟨c1,c2,c3,c4,c5,c6⟩:=bx1.three;obtain⟨d1,d2,d3,d4,d5,d6⟩:=bx2.three;go_wp2_with fail
 refine(zLC _ _ R m C M1 M2 W0 (h1'.below hB0) (h2'.below hB0) HF1.out HF2.out hR hm hC HS.out).mono ?_;rintro e w2 ⟨u,bs,rfl,⟨hbl,A3,rfl,ho⟩,hb2⟩;obtain⟨oo,on,oc,rfl,-,-,-,-⟩:=id ho.rows;go_upto_region 2 with(fail)
 refine zB ?_;intro W3 hW3;obtain⟨hB3,T5,hs3⟩:=zK hW3;have br:=(br.below hb2).below hB3;have ho:=ho.below hB3;have hBt:=nx (nx hB0 hb2) hB3;have q2:=hB0.size;clear hW3 hW0 c1 c2 c3 c4 c5 c6 d1 d2 d3 d4 d5 d6;obtain⟨f1,f2,f3,f4,f5,f6⟩:=T5.three;obtain⟨r1,r2,r3,r4,r5,r6⟩:=br.three;go_wp2;refine qY rfl rfl rfl (br.put3 _ _ _) ⟨_,bs,rfl,⟨hbl,_,rfl,?_⟩,zT (zT (zT hBt oM 0 _) oM 1 _) oM 2 _⟩;exact(ho.keep (fun k hk=>yN _ _ k _ _ _ oM) (br.lext3 dE _ _ _)).mono q2

def zQ5(n:Nat)(R1 C1 R2 C2:Int)(M1 M2:List (List Int)):Bool:=
 decide (R1=n/\C1=n/\qX R1 C1 M1) && (decide (R2=n/\C2=n/\qX R2 C2 M2) && decide (zX n n (zCj M1 M2 n)=zX n n idf))
def zBo:Nat->List Int->Int
 |_,[]=>-1
 |k,z::zs=>if z≠0 then(k:Int)else zBo (k+1) zs
end Go.Proofs.YtnbmaipobhppcaaGreat
