/- Sums and determinants (Laplace along the first row) of integer matrices as functions. Plain Lean. torsionref05.New. Matrices given by their elements; writing an element. torsionref05.Scale. torsionref05: Copied, Identity. torsionref05: Mul, Product. torsionref05: Sized. torsionref13: Inverse. smith: leading, quotient. smith: addTo. smith: rows of matrices are written. smith: band.add. smith: rows are exchanged. What the echelon form, the reduction and the Smith form of package smith compute, in plain Lean. smith: band.exchange. smith: band.negate. smith: blend. smith: a band's steps, by what they do to its state. Elementary operations on rows: products, inverses, growth; and that smith's echelon form ends. Plain Lean. smith's echelon form (the mirror) ends, within bounds, in a Hermite normal form. Plain Lean. smith's take, reduce and echelon (the mirror) end within bounds. Plain Lean. Elimination over an echelon form, plain: by rows and by columns every division is exact; how large the numbers become. -/
import Derived.Test.YtnbmaipobhppcaaGreatE04
import Derived.Test.YtnbmaipobhppcaaGreatE05
set_option linter.unusedVariables false
set_option linter.unusedSimpArgs false
set_option linter.unusedSectionVars false
set_option maxHeartbeats 16000000
set_option maxRecDepth 100000
namespace Go.Proofs.YtnbmaipobhppcaaGreat
theorem zJS{a b:Int}(h:a=b):a∣b:=⟨1,by rw[h,Int.mul_one]⟩
def qF:Nat->(Nat->Int)->Int
 |0,_=>0
 |n+1,f=>qF n f+f n
theorem zS{n:Nat}{f g:Nat->Int}(h:∀i,i<n->f i=g i):qF n f=qF n g:=by
 induction n with
 |zero=>rfl
 |succ n ih=>unfold qF;rw[ih (fun i hi=>h i (by omega)),h n (by omega)]
theorem zDH{n:Nat}{f:Nat->Int}(h:∀i,i<n->f i=0):qF n f=0:=by
 induction n with
 |zero=>rfl
 |succ n ih=>unfold qF;rw[ih (fun i hi=>h i (by omega)),h n (by omega)];rfl
theorem zAe(n:Nat)(f g:Nat->Int):qF n (fun i=>f i+g i)=qF n f+qF n g:=by
 induction n with
 |zero=>rfl
 |succ n ih=>unfold qF;rw[ih];dsimp only;omega
theorem yK(n:Nat)(k:Int)(f:Nat->Int):qF n (fun i=>k*f i)=k*qF n f:=by
 induction n with
 |zero=>unfold qF;rw[Int.mul_zero]
 |succ n ih=>unfold qF;rw[ih,Int.mul_add]
theorem zNT(n:Nat)(x y:Int)(f g:Nat->Int):qF n (fun i=>x*f i+y*g i)=x*qF n f+y*qF n g:=by
 rw[zAe,yK,yK]
theorem zFk(n:Nat)(f:Nat->Int):qF (n+1) f=f 0+qF n (fun i=>f (i+1)):=by
 induction n with
 |zero=>unfold qF qF;omega
 |succ n ih=>
  have h:qF (n+1+1) f=qF (n+1) f+f (n+1):=rfl;have h2:qF (n+1) (fun i=>f (i+1))=qF n (fun i=>f (i+1))+f (n+1):=rfl;rw[h,h2,ih];omega
theorem zEt(n m:Nat)(f:Nat->Nat->Int):qF n (fun i=>qF m (fun j=>f i j))=qF m (fun j=>qF n (fun i=>f i j)):=by
 induction n with
 |zero=>exact(zDH fun _ _=>rfl).symm
 |succ n ih=>
  show qF n (fun i=>qF m (fun j=>f i j))+qF m (fun j=>f n j)=qF m (fun j=>qF n (fun i=>f i j)+f n j);rw[zAe,ih]
theorem zAI{n:Nat}{f:Nat->Int}{c:Nat}(hc:c<n)(h:∀i,i<n->i≠c->f i=0):qF n f=f c:=by
 induction n with
 |zero=>omega
 | succ n ih=>
  unfold qF;by_cases e:c=n
  ·subst e
   rw[zDH (fun i hi=>h i (by omega) (by omega))];omega
  ·rw[ih (by omega) (fun i hi hne=>h i (by omega) hne),h n (by omega) (by omega)];omega
theorem zNU{n:Nat}{f:Nat->Int}{c:Nat}(hc:c+1<n)(h:∀i,i<n->i≠c->i≠c+1->f i=0):qF n f=f c+f (c+1):=by
 induction n with
 |zero=>omega
 | succ n ih=>
  unfold qF;by_cases e:c+1=n
  ·subst e
   rw[zAI (c:=c) (by omega) (fun i hi hne=>h i (by omega) hne (by omega))]
  ·rw[ih (by omega) (fun i hi h1 h2=>h i (by omega) h1 h2),h n (by omega) (by omega) (by omega)];omega
theorem zNS{n:Nat}{f:Nat->Int}{g:Int}(h:∀i,i<n->g∣f i):g∣qF n f:=by
 induction n with
 |zero=>exact⟨0,by unfold qF;omega⟩
 |succ n ih=>exact Int.dvd_add (ih fun i hi=>h i (by omega)) (h n (by omega))
theorem zEH{n m:Nat}(hnm:n<=m){f:Nat->Int}(h:∀i,n<=i->i<m->f i=0):qF m f=qF n f:=by
 induction m with
 |zero=>
  obtain rfl:n=0:=by omega
  rfl
 | succ m ih=>
  rcases Nat.lt_or_ge n (m+1)with h1|h1
  ·unfold qF
   rw[ih (by omega) (fun i a b=>h i a (by omega)),h m (by omega) (by omega)];have:∀n,qF n f=qF n f:=fun _=>rfl
   cases n<;>simp[qF]
  ·obtain rfl:n=m+1:=by omega
   rfl
theorem zIU{n:Nat}{f:Nat->Int}{B:Nat}(h:∀i,i<n->(f i).natAbs<=B):(qF n f).natAbs<=n*B:=by
 induction n with
 |zero=>simp[qF]
 |succ n ih=>
  have h1:=ih fun i hi=>h i (by omega)
  have h2:=h n (by omega);have h3:(qF n f+f n).natAbs<=(qF n f).natAbs+(f n).natAbs:=by omega
  have h4:(n+1)*B=n*B+B:=Nat.succ_mul n B;unfold qF;omega
def sk(j b:Nat):Nat:=if b<j then b else b+1
theorem zQS(j b:Nat):sk j b≠j:=by unfold sk;split<;>omega
theorem zNR{j b k:Nat}(h:b<k):sk j b<k+1:=by unfold sk;split<;>omega
theorem zCD(b:Nat):sk 0 b=b+1:=by unfold sk;split<;>omega
theorem zPp{j a b:Nat}(h:sk j a=sk j b):a=b:=by
 unfold sk at h;split at h<;>split at h<;>omega
def mnr(F:Nat->Nat->Int)(i j:Nat):Nat->Nat->Int:=fun a b=>F (sk i a) (sk j b)
def sg1(j:Nat):Int:=if j%2=0 then 1 else-1
theorem zNQ:sg1 0=1:=rfl
theorem zGM(j:Nat):sg1 (j+1)=-sg1 j:=by unfold sg1;split<;>split<;>omega
theorem zO1(j:Nat)(z:Int):(sg1 j*z).natAbs=z.natAbs:=by unfold sg1;split<;>omega
def det:Nat->(Nat->Nat->Int)->Int
 |0,_=>1
 |k+1,F=>qF (k+1) fun j=>sg1 j*(F 0 j*det k (mnr F 0 j))
theorem zAU(k:Nat)(F:Nat->Nat->Int):det (k+1) F=qF (k+1) fun j=>sg1 j*(F 0 j*det k (mnr F 0 j)):=rfl
theorem zA4{k:Nat}:∀{F G:Nat->Nat->Int},(∀a,a<k->∀b,b<k->F a b=G a b)->det k F=det k G:=by
 induction k with
 |zero=>intros;rfl
 |succ k ih=>
  intro F G h;rw[zAU,zAU];refine zS fun j hj=>?_
  rw[h 0 (by omega) j hj,ih (F:=mnr F 0 j) (G:=mnr G 0 j) fun a ha b hb=>h _ (zNR ha) _ (zNR hb)]
def zAr(F:Nat->Nat->Int)(c:Nat)(v:Nat->Int):Nat->Nat->Int:=fun a b=>if b=c then v a else F a b
def zIO(F:Nat->Nat->Int)(c:Nat)(v:Nat->Int):Nat->Nat->Int:=fun a b=>if a=c then v b else F a b
theorem zBk(F:Nat->Nat->Int)(i c:Nat)(v:Nat->Int):mnr (zAr F c v) i c=mnr F i c:=by
 funext a b
 unfold mnr zAr;rw[if_neg (zQS c b)]
theorem zGC{F:Nat->Nat->Int}{i j c c':Nat}{v:Nat->Int}(h:sk j c=c'):mnr (zAr F c' v) i j=zAr (mnr F i j) c (fun a=>v (sk i a)):=by
 funext a b
 unfold mnr zAr;by_cases e:b=c
 ·rw[if_pos e,if_pos (by rw[e,h])]
 ·rw[if_neg e,if_neg (fun e'=>e (zPp (e'.trans h.symm)))]
theorem zPq{j c:Nat}(h:c≠j):∃c',sk j c'=c/\(∀k,j<k+1->c<k+1->c'<k):=by
 by_cases h1:c<j
 ·exact⟨c,by unfold sk;rw[if_pos h1],fun k _ _=>by omega⟩
 ·exact⟨c-1,by unfold sk;rw[if_neg (by omega)];omega,fun k _ _=>by omega⟩
theorem zEX{k:Nat}:∀{F:Nat->Nat->Int} {c:Nat} {v w:Nat->Int} {x y:Int},c<k->
  det k (zAr F c fun a=>x*v a+y*w a)=x*det k (zAr F c v)+y*det k (zAr F c w):=by
 induction k with
 |zero=>intro F c v w x y h;omega
 | succ k ih=>
  intro F c v w x y hc;rw[zAU,zAU,zAU,<-zNT];refine zS fun j hj=>?_
  by_cases e:j=c
  ·subst e
   rw[zBk,zBk,zBk];unfold zAr;simp only[if_true];rw[Int.add_mul,Int.mul_add,Int.mul_assoc x,Int.mul_assoc y,Int.mul_left_comm (sg1 j) x,Int.mul_left_comm (sg1 j) y]
  ·obtain⟨c',h1,h2⟩:=zPq (j:=j) (c:=c) (fun h=>e h.symm)
   rw[zGC h1,zGC h1,zGC h1,ih (h2 k hj hc)];have:∀u:Nat->Int,zAr F c u 0 j=F 0 j:=fun u=>by unfold zAr;rw[if_neg e]
   rw[this,this,this,Int.mul_add,Int.mul_add,Int.mul_left_comm (F 0 j) x,Int.mul_left_comm (F 0 j) y,Int.mul_left_comm (sg1 j) x,Int.mul_left_comm (sg1 j) y]
theorem zEr(F:Nat->Nat->Int)(c:Nat):zAr F c (fun a=>F a c)=F:=by
 funext a b
 unfold zAr;split
 ·rename_i h;rw[h]
 ·rfl
theorem zBi{k:Nat}:∀{F:Nat->Nat->Int} {c:Nat},c+1<k->(∀a,F a c=F a (c+1))->det k F=0:=by
 induction k with
 |zero=>intro F c h;omega
 | succ k ih=>
  intro F c hc h;rw[zAU,zNU (c:=c) hc]
  ·rw[zGM,h 0]
   have:mnr F 0 c=mnr F 0 (c+1):=by
    funext a b
    unfold mnr;by_cases e:b=c
    ·rw[e]
     have h1:sk c c=c+1:=by unfold sk;rw[if_neg (by omega)]
     have h2:sk (c+1) c=c:=by unfold sk;rw[if_pos (by omega)]
     rw[h1,h2,h]
    ·have:sk c b=sk (c+1) b:=by unfold sk;split<;>split<;>omega
     rw[this]
   rw[this,Int.neg_mul];omega
  ·intro j hj h1 h2
   have:det k (mnr F 0 j)=0:=by
    rcases Nat.lt_or_ge j c with h3|h3
    ·refine ih (c:=c-1) (by omega) fun a=>?_
     unfold mnr;have e1:sk j (c-1)=c:=by unfold sk;rw[if_neg (by omega)];omega
     have e2:sk j (c-1+1)=c+1:=by unfold sk;rw[if_neg (by omega)];omega
     rw[e1,e2,h]
    ·refine ih (c:=c) (by omega) fun a=>?_
     unfold mnr;have e1:sk j c=c:=by unfold sk;rw[if_pos (by omega)]
     have e2:sk j (c+1)=c+1:=by unfold sk;rw[if_pos (by omega)]
     rw[e1,e2,h]
   rw[this,Int.mul_zero,Int.mul_zero]
theorem zCg{k:Nat}{F:Nat->Nat->Int}{c:Nat}{v w:Nat->Int}(h:c<k):det k (zAr F c fun a=>v a+w a)=det k (zAr F c v)+det k (zAr F c w):=by
 have:=zEX (F:=F) (v:=v) (w:=w) (x:=1) (y:=1) h;rw[Int.one_mul,Int.one_mul]at this;rw[<-this];congr 1
 funext a b
 unfold zAr;split
 ·show v a+w a=1*v a+1*w a
  rw[Int.one_mul,Int.one_mul]
 ·rfl
theorem zBc(F:Nat->Nat->Int)(c d:Nat)(v w:Nat->Int)(h:c≠d):zAr (zAr F c v) d w=zAr (zAr F d w) c v:=by
 funext a b
 unfold zAr;by_cases e:b=d
 ·rw[if_pos e,if_neg (by omega),if_pos e]
 ·rw[if_neg e]
  by_cases e2:b=c
  ·rw[if_pos e2,if_pos e2]
  ·rw[if_neg e2,if_neg e2,if_neg e]
theorem zDw{k:Nat}{F G:Nat->Nat->Int}{c:Nat}(hc:c+1<k)(h:∀a b,G a b=F a (if b=c then c+1 else if b=c+1 then c else b)):det k G=-det k F:=by
 have key:∀v w:Nat->Int,det k (zAr (zAr F c v) (c+1) w)=-det k (zAr (zAr F c w) (c+1) v):=by
  intro v w;have h0:det k (zAr (zAr F c fun a=>v a+w a) (c+1) fun a=>v a+w a)=0:=zBi hc fun a=>by
   unfold zAr;rw[if_neg (by omega),if_pos rfl,if_pos rfl]
  have hv:det k (zAr (zAr F c v) (c+1) v)=0:=zBi hc fun a=>by
   unfold zAr;rw[if_neg (by omega),if_pos rfl,if_pos rfl]
  have hw:det k (zAr (zAr F c w) (c+1) w)=0:=zBi hc fun a=>by
   unfold zAr;rw[if_neg (by omega),if_pos rfl,if_pos rfl]
  rw[zCg hc,zBc _ _ _ _ v (by omega),zBc _ _ _ _ w (by omega),zCg (by omega),zCg (by omega)]at h0;rw[zBc _ _ _ _ v (by omega)]at hv;rw[zBc _ _ _ _ w (by omega)]at hw;rw[zBc F c (c+1) v w (by omega),zBc F c (c+1) w v (by omega)];omega
 have h1:=key (fun a=>F a (c+1)) (fun a=>F a c);have e1:zAr (zAr F c fun a=>F a (c+1)) (c+1) (fun a=>F a c)=G:=by
  funext a b
  rw[h];unfold zAr;by_cases e:b=c
  ·rw[if_neg (by omega),if_pos e,if_pos e]
  ·rw[if_neg e,if_neg e]
   split<;>rfl
 have e2:zAr (zAr F c fun a=>F a c) (c+1) (fun a=>F a (c+1))=F:=by rw[zEr,zEr]
 rw[<-e1,h1,e2]
theorem zDO{k:Nat}{F:Nat->Nat->Int}{c d:Nat}(hcd:c<d)(hd:d<k)(h:∀a,F a c=F a d):det k F=0:=by
 obtain⟨n,hn⟩:∃n,d=c+1+n:=⟨d-(c+1),by omega⟩;induction n generalizing F d with
 |zero=>subst hn;exact zBi hd h
 | succ n ih=>
  have h1:=zDw (k:=k) (F:=F) (G:=fun a b=>F a (if b=d-1 then d-1+1 else if b=d-1+1 then d-1 else b)) (c:=d-1) (by omega) fun a b=>rfl
  have h2:=ih (F:=fun a b=>F a (if b=d-1 then d-1+1 else if b=d-1+1 then d-1 else b)) (d:=d-1) (by omega) (by omega) (fun a=>by
   rw[if_neg (by omega),if_neg (by omega),if_pos rfl,h];congr 1;omega) (by omega)
  omega
theorem zFw(k:Nat):∀F:Nat->Nat->Int,det (k+1) F=qF (k+1) fun i=>sg1 i*(F i 0*det k (mnr F i 0)):=by
 induction k with
 |zero=>intro F;rfl
 | succ k ih=>
  intro F;rw[zAU,zFk,zFk _ (fun i=>sg1 i*(F i 0*det (k+1) (mnr F i 0)))];congr 1;have e1:∀j,det (k+1) (mnr F 0 (j+1))=qF (k+1) fun i=>sg1 i*(F (i+1) 0*det k (fun a b=>F (sk i a+1) (sk j b+1))):=by
   intro j;rw[ih];refine zS fun i hi=>?_
   have a1:mnr F 0 (j+1) i 0=F (i+1) 0:=by
    unfold mnr;rw[zCD];rfl
   have a2:mnr (mnr F 0 (j+1)) i 0=fun a b=>F (sk i a+1) (sk j b+1):=by
    funext a b
    unfold mnr;rw[zCD,zCD];congr 1;unfold sk;split<;>split<;>omega
   rw[a1,a2]
  have e2:∀i,det (k+1) (mnr F (i+1) 0)=qF (k+1) fun j=>sg1 j*(F 0 (j+1)*det k (fun a b=>F (sk i a+1) (sk j b+1))):=by
   intro i;rw[zAU];refine zS fun j hj=>?_
   have a1:mnr F (i+1) 0 0 j=F 0 (j+1):=by
    unfold mnr;rw[zCD];rfl
   have a2:mnr (mnr F (i+1) 0) 0 j=fun a b=>F (sk i a+1) (sk j b+1):=by
    funext a b
    unfold mnr;rw[zCD,zCD];congr 1;unfold sk;split<;>split<;>omega
   rw[a1,a2]
  have l1:qF (k+1) (fun j=>sg1 (j+1)*(F 0 (j+1)*det (k+1) (mnr F 0 (j+1))))=qF (k+1) fun j=>qF (k+1) fun i=>sg1 (j+1)*(F 0 (j+1)*(sg1 i*(F (i+1) 0*det k (fun a b=>F (sk i a+1) (sk j b+1))))):=by
   refine zS fun j hj=>?_
   rw[e1 j,<-yK,<-yK]
  have l2:qF (k+1) (fun i=>sg1 (i+1)*(F (i+1) 0*det (k+1) (mnr F (i+1) 0)))=qF (k+1) fun i=>qF (k+1) fun j=>sg1 (i+1)*(F (i+1) 0*(sg1 j*(F 0 (j+1)*det k (fun a b=>F (sk i a+1) (sk j b+1))))):=by
   refine zS fun i hi=>?_
   rw[e2 i,<-yK,<-yK]
  rw[l1,l2,zEt];refine zS fun i hi=>zS fun j hj=>?_
  rw[zGM,zGM];generalize det k _=D;generalize F 0 (j+1)=P;generalize F (i+1) 0=Q;generalize sg1 i=s;generalize sg1 j=t;grind
def trp(F:Nat->Nat->Int):Nat->Nat->Int:=fun a b=>F b a
theorem zBO(k:Nat):∀F:Nat->Nat->Int,det k (trp F)=det k F:=by
 induction k with
 |zero=>intro F;rfl
 |succ k ih=>
  intro F;rw[zAU,zFw];refine zS fun j hj=>?_
  have:mnr (trp F) 0 j=trp (mnr F j 0):=rfl;rw[this,ih];rfl
theorem zEY{k:Nat}{F:Nat->Nat->Int}{c:Nat}{v w:Nat->Int}{x y:Int}(h:c<k):
  det k (zIO F c fun a=>x*v a+y*w a)=x*det k (zIO F c v)+y*det k (zIO F c w):=by
 have e:∀u,trp (zIO F c u)=zAr (trp F) c u:=fun u=>rfl
 rw[<-zBO,<-zBO k (zIO F c v),<-zBO k (zIO F c w),e,e,e];exact zEX h
theorem zBD{k:Nat}{F:Nat->Nat->Int}{c:Nat}(h:c<k)(h0:∀b,b<k->F c b=0):det k F=0:=by
 have:=zEY (F:=F) (v:=F c) (w:=F c) (x:=0) (y:=0) h;rw[Int.zero_mul (det k _),Int.zero_add]at this;rw[<-this];refine zA4 fun a ha b hb=>?_
 unfold zIO;split
 ·rename_i e;rw[e,h0 b hb];simp
 ·rfl
theorem zFL{k:Nat}{F:Nat->Nat->Int}{c d:Nat}(hcd:c<d)(hd:d<k)(h:∀b,F c b=F d b):det k F=0:=by
 rw[<-zBO];exact zDO hcd hd h
theorem zGn{k:Nat}{F G:Nat->Nat->Int}{c:Nat}(hc:c+1<k)(h:∀a b,G a b=F (if a=c then c+1 else if a=c+1 then c else a) b):det k G=-det k F:=by
 rw[<-zBO k G,<-zBO k F];exact zDw hc fun a b=>h b a
theorem zEZ{k R:Nat}{F:Nat->Nat->Int}{i:Nat}{c:Nat->Int}{v:Nat->Nat->Int}(h:i<k):
  det k (zIO F i fun b=>qF R fun t=>c t*v t b)=qF R fun t=>c t*det k (zIO F i (v t)):=by
 induction R with
 |zero=>exact zBD h fun b hb=>by unfold zIO;rw[if_pos rfl];rfl
 | succ R ih=>
  show det k (zIO F i fun b=>qF R (fun t=>c t*v t b)+c R*v R b)=_;have e:(fun b=>qF R (fun t=>c t*v t b)+c R*v R b)=fun b=>1*(fun b=>qF R fun t=>c t*v t b) b+c R*v R b:=by
   funext b
   rw[Int.one_mul]
  rw[e,zEY h,ih,Int.one_mul];rfl
theorem zBy{k R:Nat}{F P:Nat->Nat->Int}{g:Int}(h:∀σ:Nat->Nat,(∀a,a<k->σ a<R)->g∣det k fun a b=>F (σ a) b):
  g∣det k fun a b=>qF R fun t=>P a t*F t b:=by
 have key:∀i,i<=k->∀σ:Nat->Nat,(∀a,a<k->σ a<R)->g∣det k fun a b=>if a<i then qF R fun t=>P a t*F t b else F (σ a) b:=by
  intro i;induction i with
  |zero=>
   intro _ σ hσ;have:=h σ hσ;simpa using this
  | succ i ih=>
   intro hi σ hσ;have e:(fun a b=>if a<i+1 then qF R fun t=>P a t*F t b else F (σ a) b)=zIO (fun a b=>if a<i then qF R fun t=>P a t*F t b else F (σ a) b) i fun b=>qF R fun t=>P i t*F t b:=by
    funext a b
    unfold zIO;by_cases e:a=i
    ·rw[if_pos e,if_pos (by omega),e]
    ·rw[if_neg e]
     dsimp only;by_cases e2:a<i
     ·rw[if_pos e2,if_pos (by omega)]
     ·rw[if_neg e2,if_neg (by omega)]
   rw[e,zEZ (by omega)];refine zNS fun t ht=>Int.dvd_trans ?_ (Int.dvd_mul_left _ _)
   have:=ih (by omega) (fun a=>if a=i then t else σ a) fun a ha=>by
    split
    ·exact ht
    ·exact hσ a ha
   have e3:(fun a b=>if a<i then qF R fun t=>P a t*F t b else F ((fun a=>if a=i then t else σ a) a) b)=zIO (fun a b=>if a<i then qF R fun t=>P a t*F t b else F (σ a) b) i (F t):=by
    funext a b
    unfold zIO;dsimp only;by_cases e:a=i
    ·rw[if_pos e,if_pos e,if_neg (by omega)]
    ·rw[if_neg e,if_neg e]
   rw[e3]at this;exact this
 by_cases hR:0<R
 ·have:=key k (Nat.le_refl _) (fun _=>0) (fun _ _=>hR)
  refine Int.dvd_trans this (zJS (zA4 fun a ha b hb=>?_));rw[if_pos ha]
 ·obtain rfl:R=0:=by omega
  rcases Nat.eq_zero_or_pos k with hk|hk
  ·subst hk
   exact h (fun _=>0) (fun a ha=>by omega)
  ·rw[zBD hk fun b hb=>rfl]
   exact Int.dvd_zero g
def Inc(k:Nat)(σ:Nat->Nat):Prop:=∀a,a+1<k->σ a<σ (a+1)
def wt:Nat->(Nat->Nat)->Nat
 |0,_=>0
 |n+1,σ=>wt n σ+n*σ n
theorem zPu{n R:Nat}{σ:Nat->Nat}(h:∀a,a<n->σ a<R):wt n σ<=n*(n*R):=by
 induction n with
 |zero=>simp[wt]
 |succ n ih=>
  have h1:=ih fun a ha=>h a (by omega)
  have h2:=h n (by omega);unfold wt;have h3:n*σ n<=n*R:=Nat.mul_le_mul_left _ (by omega);have h4:n*(n*R)<=n*((n+1)*R):=Nat.mul_le_mul_left _ (Nat.mul_le_mul_right _ (by omega));have h5:(n+1)*((n+1)*R)=n*((n+1)*R)+(n+1)*R:=Nat.succ_mul _ _;have h6:(n+1)*R=n*R+R:=Nat.succ_mul _ _;omega
theorem zNg{n:Nat}{σ τ:Nat->Nat}(h:∀a,a<n->σ a=τ a):wt n σ=wt n τ:=by
 induction n with
 |zero=>rfl
 |succ n ih=>unfold wt;rw[ih fun a ha=>h a (by omega),h n (by omega)]
theorem zL4{n:Nat}{σ τ:Nat->Nat}{c:Nat}(hc:c+1<n)(h:∀a,τ a=σ (if a=c then c+1 else if a=c+1 then c else a))(hlt:σ (c+1)<σ c):wt n σ<wt n τ:=by
 obtain⟨m,rfl⟩:∃m,n=c+2+m:=⟨n-(c+2),by omega⟩;clear hc;induction m with
 |zero=>
  show wt c σ+c*σ c+(c+1)*σ (c+1)<wt c τ+c*τ c+(c+1)*τ (c+1);have h1:wt c σ=wt c τ:=zNg fun a ha=>by rw[h,if_neg (by omega),if_neg (by omega)]
  have h2:τ c=σ (c+1):=by rw[h,if_pos rfl]
  have h3:τ (c+1)=σ c:=by rw[h,if_neg (by omega),if_pos rfl]
  rw[h1,h2,h3];have e1:(c+1)*σ (c+1)=c*σ (c+1)+σ (c+1):=Nat.succ_mul _ _;have e2:(c+1)*σ c=c*σ c+σ c:=Nat.succ_mul _ _;omega
 |succ m ih=>
  show wt (c+2+m) σ+(c+2+m)*σ (c+2+m)<wt (c+2+m) τ+(c+2+m)*τ (c+2+m);have h1:τ (c+2+m)=σ (c+2+m):=by rw[h,if_neg (by omega),if_neg (by omega)]
  rw[h1];omega
theorem zDx{k R:Nat}{F:Nat->Nat->Int}{g:Int}(h:∀σ:Nat->Nat,(∀a,a<k->σ a<R)->Inc k σ->g∣det k fun a b=>F (σ a) b):
  ∀σ:Nat->Nat,(∀a,a<k->σ a<R)->g∣det k fun a b=>F (σ a) b:=by
 have key:∀n,∀σ:Nat->Nat,(∀a,a<k->σ a<R)->k*(k*R)-wt k σ<=n->g∣det k fun a b=>F (σ a) b:=by
  intro n;induction n with
  | zero=>
   intro σ hσ hn;by_cases hi:∀a,a+1<k->σ a<σ (a+1)
   ·exact h σ hσ hi
   ·obtain⟨c,hc⟩:=Classical.not_forall.1 hi
    obtain⟨hc1,hc2⟩:=Classical.not_imp.1 hc;rcases Nat.lt_or_ge (σ (c+1)) (σ c)with h1|h1
    ·have hs:=zL4 (n:=k) (σ:=σ) (τ:=fun a=>σ (if a=c then c+1 else if a=c+1 then c else a)) hc1 (fun a=>rfl) h1
     have hl:=zPu (n:=k) (R:=R) (σ:=fun a=>σ (if a=c then c+1 else if a=c+1 then c else a)) fun a ha=>hσ _ (by split;omega;split<;>omega)
     omega
    ·rw[zFL (c:=c) (d:=c+1) (by omega) hc1 (fun b=>by
      have:σ c=σ (c+1):=by omega
      show F (σ c) b=F (σ (c+1)) b;rw[this])]
     exact Int.dvd_zero g
  | succ n ih=>
   intro σ hσ hn;by_cases hi:∀a,a+1<k->σ a<σ (a+1)
   ·exact h σ hσ hi
   ·obtain⟨c,hc⟩:=Classical.not_forall.1 hi
    obtain⟨hc1,hc2⟩:=Classical.not_imp.1 hc;rcases Nat.lt_or_ge (σ (c+1)) (σ c)with h1|h1
    ·have hs:=zL4 (n:=k) (σ:=σ) (τ:=fun a=>σ (if a=c then c+1 else if a=c+1 then c else a)) hc1 (fun a=>rfl) h1
     have hr:∀a,a<k->σ (if a=c then c+1 else if a=c+1 then c else a)<R:=fun a ha=>hσ _ (by split;omega;split<;>omega)
     have hl:=zPu (n:=k) (R:=R) (σ:=fun a=>σ (if a=c then c+1 else if a=c+1 then c else a)) hr;have:=ih (fun a=>σ (if a=c then c+1 else if a=c+1 then c else a)) hr (by omega);rw[zGn (F:=fun a b=>F (σ a) b) hc1 (fun a b=>rfl)]at this;exact Int.dvd_neg.1 this
    ·rw[zFL (c:=c) (d:=c+1) (by omega) hc1 (fun b=>by
      have:σ c=σ (c+1):=by omega
      show F (σ c) b=F (σ (c+1)) b;rw[this])]
     exact Int.dvd_zero g
 exact fun σ hσ=>key _ σ hσ (Nat.le_refl _)
theorem Inc.le{k:Nat}{σ:Nat->Nat}(h:Inc k σ):∀a,a<k->a<=σ a:=by
 intro a;induction a with
 |zero=>intro _;omega
 |succ a ih=>
  intro ha;have h1:=ih (by omega);have h2:=h a ha;omega
def jF:Nat->(Nat->Int)->Int
 |0,_=>1
 |n+1,f=>jF n f*f n
theorem zIA(n:Nat)(f:Nat->Int):jF (n+1) f=f 0*jF n (fun i=>f (i+1)):=by
 induction n with
 |zero=>unfold jF jF;rw[Int.one_mul,Int.mul_one]
 |succ n ih=>
  have h:jF (n+1+1) f=jF (n+1) f*f (n+1):=rfl;have h2:jF (n+1) (fun i=>f (i+1))=jF n (fun i=>f (i+1))*f (n+1):=rfl;rw[h,h2,ih,Int.mul_assoc]
theorem zAa{n:Nat}{f:Nat->Int}(h:∀i,i<n->0<f i):0<jF n f:=by
 induction n with
 |zero=>exact Int.one_pos
 |succ n ih=>exact Int.mul_pos (ih fun i hi=>h i (by omega)) (h n (by omega))
theorem zG5{n:Nat}{f g:Nat->Int}(h:∀i,i<n->f i∣g i):jF n f∣jF n g:=by
 induction n with
 |zero=>exact Int.dvd_refl _
 |succ n ih=>exact Int.mul_dvd_mul (ih fun i hi=>h i (by omega)) (h n (by omega))
theorem zCy{k:Nat}:∀{F:Nat->Nat->Int},(∀a,a<k->∀b,b<k->a<b->F a b=0)->det k F=jF k fun i=>F i i:=by
 induction k with
 |zero=>intros;rfl
 | succ k ih=>
  intro F h;rw[zAU,zAI (c:=0) (by omega),zNQ,Int.one_mul,zIA,ih]
  ·rfl
  ·intro a ha b hb hab
   unfold mnr;rw[zCD,zCD];exact h _ (by omega) _ (by omega) (by omega)
  ·intro j hj hne
   rw[h 0 (by omega) j hj (by omega),Int.zero_mul,Int.mul_zero]
theorem zGo{k:Nat}{F:Nat->Nat->Int}(h:∀a,a<k->∀b,b<k->b<a->F a b=0):det k F=jF k fun i=>F i i:=by
 rw[<-zBO,zCy]
 ·rfl
 ·intro a ha b hb hab
  exact h b hb a ha hab
def zHo:Nat->Nat
 |0=>1
 |n+1=>(n+1)*zHo n
theorem zJP{k h:Nat}:∀{F:Nat->Nat->Int},(∀a,a<k->∀b,b<k->(F a b).natAbs<=h)->(det k F).natAbs<=zHo k*h^k:=by
 induction k with
 |zero=>intro F _;simp[det,zHo]
 | succ k ih=>
  intro F hF;rw[zAU];refine Nat.le_trans (zIU (B:=h*(zHo k*h^k)) fun j hj=>?_) ?_
  ·rw[zO1,Int.natAbs_mul]
   exact Nat.mul_le_mul (hF 0 (by omega) j hj) (ih fun a ha b hb=>hF _ (zNR ha) _ (zNR hb))
  ·show _<=(k+1)*zHo k*h^(k+1)
   rw[Nat.pow_succ];apply Nat.le_of_eq;rw[Nat.mul_left_comm h,Nat.mul_comm h,Nat.mul_assoc]
end Go.Proofs.YtnbmaipobhppcaaGreat

namespace Go.Proofs.YtnbmaipobhppcaaGreat
open Go.RowKit
def zAP(R C:Nat):List (List Int):=List.replicate R (List.replicate C 0)
theorem zCA(R C:Nat)(w:World)(hR:R<=1000000)(hC:C<=1000000):
  Calls Tryz.prog 62 #[.int .i64 R,.int .i64 C] w (zBB w R C (zAP R C)):=by
 have hmk:=fun W=>mkI (C:Int) C rfl oM W
 go_enter Tryz.func62,Tryz.ntmps62;go_upto_block 0 with(fail)
 refine zB ?_;intro W0 hW0;obtain⟨hB0,br,bA,hs0⟩:=qH hW0;go_wp2;go_loopw [5,6] (fun A iv wr=>∃(k:Nat) (bs:List Nat),k<=R/\iv= .int .i64 k/\zT wr (w.heap.size+1) A C bs (zAP k C)/\Below w.heap.size w wr/\Blk wr w.heap.size 28 #[.int .i64 0,.int .i64 0,.slice none 0 0]) (fun _ iv _=>R-(intOf iv).toNat)
 case atStart=>
  refine⟨0,[],by omega,rfl,⟨⟨by simp[yC],.inr ⟨w.heap.size+1,0,#[],rfl,xgf _,bA,xgf _,by simp[maxLen],rfl,rfl⟩⟩,rfl,fun k b r h=>by simp at h,by simp,by omega⟩,hB0,br⟩
 case round=>
  obtain⟨k,bs,hk,rfl,ho,hb,br⟩:=hrel;have hbl:bs.length=k:=by rw[<-ho.len];simp[zAP]
  by_cases hlt:k<R
  ·have hmk:=hmk wr
   have hb2:Below wr.heap.size wr ((wr.alloc (.cells (zeroCells C) tI)).alloc (.cells #[.slice (some ⟨wr.heap.size,0,none⟩) C C] tR)):=((Below.refl _ _).alloc (xgf _) _).alloc sI _;have hblk:Blk ((wr.alloc (.cells (zeroCells C) tI)).alloc (.cells #[.slice (some ⟨wr.heap.size,0,none⟩) C C] tR)) (wr.heap.size+1) tR #[.slice (some ⟨wr.heap.size,0,none⟩) C C]:=by
    simpa using Blk.new (wr.alloc (.cells (zeroCells C) tI)) tR #[.slice (some ⟨wr.heap.size,0,none⟩) C C]
   have hrow:=(zDC wr C).below ((Below.refl (wr.alloc (.cells (zeroCells C) tI)).heap.size _).alloc (xgf _) (.cells #[.slice (some ⟨wr.heap.size,0,none⟩) C C] tR));have hfr:∀g∈bs,g≠wr.heap.size:=by
    intro g hg;obtain⟨j,hj,e⟩:=List.getElem_of_mem hg;have:=(ho.row j g _ (by rw[xga hj,e]) (xga (by rw[ho.len];exact hj))).2.2.lt;omega
   have hsz:=hb.size;have hbr:=br.lt;have ho2:=ho.below hb2;have hxx:=lx hb2;go_wp2_with (at_builtin;refine zQ6 rfl _ _ rfl (w.heap.size+1) u5 C bs (zAP k C) rfl ho2 (wr.heap.size+1) 1 wr.heap.size (List.replicate C 0) rfl hblk hrow sI oM hfr oM (by simp;omega) ?_;intro v' w' hown hgr hxg)
   have hown':∀g,u5.ownBlock=some g->w.heap.size+1<=g:=by
    intro g hg;rcases ho.own.2 with⟨rfl,-⟩|⟨g',cap,cur,rfl,h1,-⟩
    ·cases hg
    ·simp only[Value.ownBlock,Option.some.injEq]at hg
     omega
   have hB9:Below w.heap.size w w':=(nx hb hb2).grown hgr (by simp;omega) (fun g hg=>by have:=hown' g hg;omega);have br9:=(hgr.block _ (by simp;omega) (fun hh=>by have:=hown' _ hh.symm;omega)).trans (br.below hb2);go_roundw
   case rel=>
    refine⟨k+1,bs++ [wr.heap.size],by omega,by simp,?_,hB9,br9⟩;have:zAP (k+1) C=zAP k C++ [List.replicate C 0]:=by unfold zAP;rw[List.replicate_succ']
    rw[this];exact hown
   case measure=>simp[intOf];omega
  ·obtain rfl:k=R:=by omega
   obtain⟨c1,c2,c3,c4,c5,c6⟩:=br.three;obtain⟨ao,an,ac,rfl,a1,a2,a3,-⟩:=id ho.rows;have hsz:=hb.size;go_wp2;refine yE rfl rfl rfl (br.put3 _ _ _) ⟨_,bs,rfl,⟨hbl,_,rfl,?_⟩,zO (zO (zO hb (xgf _) 0 _) (xgf _) 1 _) (xgf _) 2 _⟩;exact(ho.keep (fun k hk=>yY _ _ k _ _ _ oM) (br.lext3 dE _ _ _)).mono (Nat.le_succ _)
def zY(R C:Nat)(f:Nat->Nat->Int):List (List Int):=(List.range R).map fun i=>(List.range C).map (f i)
def ent(M:List (List Int))(i j:Nat):Int:=(M.getD i []).getD j 0
theorem qM{R C:Nat}{f g:Nat->Nat->Int}(h:∀i,i<R->∀j,j<C->f i j=g i j):zY R C f=zY R C g:=by
 unfold zY;refine List.map_congr_left fun i hi=>List.map_congr_left fun j hj=>h i (List.mem_range.1 hi) j (List.mem_range.1 hj)
theorem zAW(R C:Nat)(f:Nat->Nat->Int){i:Nat}(hi:i<R):(zY R C f)[i]?=some ((List.range C).map (f i)):=by
 simp[zY,hi]
theorem yX{R C:Nat}{f:Nat->Nat->Int}{i j:Nat}(hi:i<R)(hj:j<C):ent (zY R C f) i j=f i j:=by
 unfold ent;rw[zBQ (zAW R C f hi)];simp[xgb,hj]
theorem zAm(R C:Nat)(f:Nat->Nat->Int):jT R C (zY R C f):=by
 refine⟨by simp[zY],fun r hr=>?_⟩;unfold zY at hr;obtain⟨i,-,rfl⟩:=List.mem_map.1 hr;simp
theorem zBE{M:List (List Int)}{i j:Nat}{r:List Int}{z:Int}(h1:M[i]?=some r)(h2:r[j]?=some z):ent M i j=z:=by
 unfold ent;rw[zBQ h1,zBQ h2]
theorem zKk{R C:Nat}{M:List (List Int)}(h:jT R C M):M=zY R C (ent M):=by
 apply List.ext_getElem
 ·rw[h.1];simp[zY]
 ·intro i h1 h2
  have hi:i<R:=by rw[<-h.1];exact h1
  have e1:M[i]?=some M[i]:=xga h1;have hl:=h.2 _ (xgd e1);apply List.ext_getElem
  ·rw[hl];simp[zY]
  ·intro j h3 h4
   have:=zBE e1 (xga h3);simp[zY,this]
theorem zCQ(R C:Nat):zAP R C=zY R C (fun _ _=>0):=by
 unfold zAP zY;apply List.ext_getElem
 ·simp
 ·intro i h1 h2
  apply List.ext_getElem
  ·simp
  ·intro j h3 h4
   simp
def zLh(M:List (List Int))(i j:Nat)(z:Int):List (List Int):=M.set i ((M.getD i []).set j z)
theorem zCC{R C:Nat}{f:Nat->Nat->Int}{i j:Nat}(z:Int)(hi:i<R)(hj:j<C):zLh (zY R C f) i j z=zY R C (fun i' j'=>if i'=i/\j'=j then z else f i' j'):=by
 unfold zLh;rw[zBQ (zAW R C f hi)];apply List.ext_getElem
 ·simp[zY]
 ·intro a h1 h2
  have ha:a<R:=by simpa[zY]using h2
  by_cases e:a=i
  ·subst e
   rw[List.getElem_set_self];apply List.ext_getElem
   ·simp[zY]
   ·intro b h3 h4
    by_cases e2:b=j
    ·subst e2;simp[zY]
    ·have e3:j≠b:=fun h=>e2 h.symm
     simp[zY,e2,e3]
  ·have e3:i≠a:=fun h=>e h.symm
   rw[List.getElem_set_ne e3];simp[zY,e]
theorem zT.set{w:World}{base:Nat}{A:Value}{C:Nat}{bs:List Nat}{M:List (List Int)}(h:zT w base A C bs M){i j b:Nat}(hb:bs[i]?=some b)(hj:j<C)
  {s:Bool} {a:Option Addr} {l c:Nat} {z:Int} (hv:zH w (.agg #[.bool s,.slice a l c]) z):
  zT ((w.setCell ⟨b,j*2,none⟩ (.bool s)).setCell ⟨b,j*2+1,none⟩ (.slice a l c)) base A C bs (zLh M i j z)/\yI w ((w.setCell ⟨b,j*2,none⟩ (.bool s)).setCell ⟨b,j*2+1,none⟩ (.slice a l c))/\base<=b:=by
 have hib:=(xge.1 hb).1;have hiM:i<M.length:=by rw[h.len];exact hib
 obtain⟨r1,r2,r3⟩:=h.row i b M[i] hb (xga hiM);obtain⟨s1,s2⟩:=r3.set (k:=j) (by rw[r2];exact hj) hv;refine⟨⟨⟨h.own.1,?_⟩,by simp[zLh,h.len],?_,h.nodup,h.cb⟩,s2,r1⟩
 ·rcases h.own.2 with h1|⟨g,cap,cur,e1,e2,e3,e4⟩
  ·exact .inl h1
  ·refine .inr ⟨g,cap,cur,e1,e2,?_,e4⟩
   have hne:g≠b:=by
    have:=zDA h.own r3;rw[e1]at this;simp only[Value.ownBlock]at this;intro hh;exact this (by rw[hh])
   exact(zV w b _ _ g _ _ hne).trans e3
 ·intro k b' r hk hr
  by_cases e:k=i
  ·subst e
   rw[hb]at hk;injection hk with hk
   subst hk;unfold zLh at hr;rw[List.getElem?_set_self hiM]at hr;injection hr with hr
   subst hr;rw[zBQ (xga hiM)];exact⟨r1,by rw[List.length_set];exact r2,s1⟩
  ·unfold zLh at hr
   rw[List.getElem?_set_ne (Ne.symm e)]at hr;obtain⟨f1,f2,f3⟩:=h.row k b' r hk hr;have hkb:=(xge.1 hk).1;have hne:b'≠b:=by
    intro hh;subst hh;have h1:=(xge.1 hk).2;have h2:=(xge.1 hb).2;exact e ((List.getElem_inj h.nodup).1 (h1.trans h2.symm))
   exact⟨f1,f2,f3.old (zV w b _ _ b' _ _ hne) s2⟩
theorem zT.at_{w:World}{base:Nat}{ao:Option Addr}{n cap C:Nat}{bs:List Nat}{M:List (List Int)}(h:zT w base (.slice ao n cap) C bs M){i:Nat}(hi:i<bs.length):
  ∃g b,ao=some ⟨g,0,none⟩/\g<w.heap.size/\bs[i]?=some b/\b<w.heap.size/\w.cell? ⟨g,i,none⟩=some (.slice (some ⟨b,0,none⟩) C C)/\n=bs.length:=by
 rcases h.own.2 with⟨e,h0⟩|⟨g,cap',cur,e,e2,e3,e4,e5,e6,e7⟩
 ·omega
 ·injection e with e8 e9 e10
  subst e8;have hM:i<M.length:=by rw[h.len];exact hi
  have hr:=h.row i bs[i] M[i] (xga hi) (xga hM);refine⟨g,bs[i],rfl,(Array.getElem?_eq_some_iff.1 e3).1,xga hi,hr.2.2.lt,?_,e9⟩;rw[cell_of_row w g i cur _ _ e3];have:(yC C bs)[i]?=some (.slice (some ⟨bs[i],0,none⟩) C C):=by simp[yC,hi]
  rw[<-e7,List.getElem?_take_of_lt oM]at this;simpa using this
theorem zT.cellAt{w:World}{base:Nat}{A:Value}{C:Nat}{bs:List Nat}{M:List (List Int)}(h:zT w base A C bs M){i j b:Nat}(hb:bs[i]?=some b)(hj:j<C):
  ∃s a l c,w.cell? ⟨b,j*2,none⟩=some (.bool s)/\w.cell? ⟨b,j*2+1,none⟩=some (.slice a l c)/\w.frozen? ⟨b,j*2,none⟩=false/\w.frozen? ⟨b,j*2+1,none⟩=false/\zH w (.agg #[.bool s,.slice a l c]) (ent M i j):=by
 have hib:=(xge.1 hb).1;have hiM:i<M.length:=by rw[h.len];exact hib
 obtain⟨r1,r2,r3⟩:=h.row i b M[i] hb (xga hiM);have hjr:j<M[i].length:=by rw[r2];exact hj
 have:=r3.cell (xga hjr);rwa[zBE (xga hiM) (xga hjr)]
def zBr(f:Nat->Nat->Int)(i j:Nat):Nat->Nat->Int:=fun a b=>if a<i∨(a=i/\b<j)then f a b else 0
theorem zDm(R C:Nat)(f:Nat->Nat->Int):zAP R C=zY R C (zBr f 0 0):=by
 rw[zCQ];exact qM fun i _ j _=>by unfold zBr;rw[if_neg oM]
theorem zGS{R C:Nat}{f:Nat->Nat->Int}{i:Nat}:zY R C (zBr f i C)=zY R C (zBr f (i+1) 0):=
 qM fun a _ b hb=>by
  unfold zBr;by_cases h:a<i∨(a=i/\b<C)
  ·rw[if_pos h,if_pos oM]
  ·rw[if_neg h,if_neg oM]
theorem zGR{R C:Nat}{f:Nat->Nat->Int}:zY R C (zBr f R 0)=zY R C f:=
 qM fun a ha b _=>by unfold zBr;rw[if_pos oM]
theorem zHX{R C:Nat}{f:Nat->Nat->Int}{i j:Nat}(hi:i<R)(hj:j<C):zLh (zY R C (zBr f i j)) i j (f i j)=zY R C (zBr f i (j+1)):=by
 rw[zCC _ hi hj];exact qM fun a _ b _=>by
  unfold zBr;by_cases h:a=i/\b=j
  ·obtain⟨rfl,rfl⟩:=h
   rw[if_pos ⟨rfl,rfl⟩,if_pos oM]
  ·rw[if_neg h]
   by_cases h2:a<i∨(a=i/\b<j)
   ·rw[if_pos h2,if_pos oM]
   ·rw[if_neg h2,if_neg oM]
theorem zT.lts{w:World}{base:Nat}{A:Value}{C:Nat}{bs:List Nat}{M:List (List Int)}(h:zT w base A C bs M):∀(i b:Nat),bs[i]?=some b->b<w.heap.size:=by
 intro i b hb;have hib:=(xge.1 hb).1;have hiM:i<M.length:=by rw[h.len];exact hib
 exact(h.row i b M[i] hb (xga hiM)).2.2.lt
def idf(i j:Nat):Int:=if i=j then 1 else 0
def zNp(k:Nat)(i j:Nat):Int:=if i=j/\i<k then 1 else 0
def zLr(f:Nat->Int):Nat->Int
 |0=>0
 |k+1=>zLr f k+f k
def zC6(A B:List (List Int))(m i j:Nat):Int:=zLr (fun t=>ent A i t*ent B t j) m
def zCd(A B:List (List Int))(R m C:Nat):Prop:=
 ∀i,i<R->∀j,j<C->∀k,k<m->Sm (ent A i k)/\Sm (ent B k j)/\Sm (ent A i k*ent B k j)/\Sm (zC6 A B k i j)
def zMB(f:Nat->Nat->Int)(i j:Nat)(x:Int):Nat->Nat->Int:=fun a b=>if a=i/\b=j then x else zBr f i j a b
theorem zJ3{R C:Nat}{f:Nat->Nat->Int}{i j:Nat}:zY R C (zBr f i j)=zY R C (zMB f i j 0):=
 qM fun a _ b _=>by
  unfold zMB;by_cases h:a=i/\b=j
  ·obtain⟨rfl,rfl⟩:=h
   rw[if_pos ⟨rfl,rfl⟩];unfold zBr;rw[if_neg oM]
  ·rw[if_neg h]
theorem zNa{R C:Nat}{f:Nat->Nat->Int}{i j:Nat}{x y:Int}(hi:i<R)(hj:j<C):zLh (zY R C (zMB f i j x)) i j y=zY R C (zMB f i j y):=by
 rw[zCC _ hi hj];exact qM fun a _ b _=>by
  unfold zMB;by_cases h:a=i/\b=j
  ·rw[if_pos h,if_pos h]
  ·rw[if_neg h,if_neg h,if_neg h]
theorem zNZ{R C:Nat}{f:Nat->Nat->Int}{i j:Nat}:zY R C (zMB f i j (f i j))=zY R C (zBr f i (j+1)):=
 qM fun a _ b _=>by
  unfold zMB;by_cases h:a=i/\b=j
  ·obtain⟨rfl,rfl⟩:=h
   rw[if_pos ⟨rfl,rfl⟩];unfold zBr;rw[if_pos oM]
  ·rw[if_neg h]
   unfold zBr;by_cases h2:a<i∨(a=i/\b<j)
   ·rw[if_pos h2,if_pos oM]
   ·rw[if_neg h2,if_neg oM]
theorem zLu{f:Nat->Nat->Int}{i j:Nat}{x:Int}:zMB f i j x i j=x:=by unfold zMB;rw[if_pos ⟨rfl,rfl⟩]
theorem zIM{W:World}{r:Nat}{v:Array Value}(hb:Blk W r 28 v)(h3:v.size=3):(loadVar 28 ⟨r,0,none⟩).run Tryz.prog W= .ok (.agg v) W:=
 run_loadVar_row W r _ _ v _ _ hb Tryz.underlying28 rfl (by rw[Tryz.sizeM,h3])
theorem zFf{fn:Func}{p u:Tmp}(h:fn.results=#[.cell p 28,.tmp u])(tmps:Array Value){W:World}{r:Nat}{v:Array Value}
  (hp:tmps.getD p undef= .pointer (some ⟨r,0,none⟩)) (hb:Blk W r 28 v) (h3:v.size=3):
  (results fn tmps).run Tryz.prog W= .ok (.tuple #[.agg v,tmps.getD u undef]) W:=by
 have hp':tmps[p]?.getD undef= .pointer (some ⟨r,0,none⟩):=by simpa using hp
 simp[results,h,hp',asAddr,zIM hb h3]
theorem zLT(v1 v2:Value)(R m C:Nat)(M1 M2:List (List Int))(w:World)(h1:jE w v1 R m M1)(h2:jE w v2 m C M2)(hF1:jT R m M1)(hF2:jT m C M2)(hR:R<=1000000)(hm:m<=1000000)(hC:C<=1000000)(hS:zCd M1 M2 R m C):
  Calls Tryz.prog 135 #[v1,v2] w fun e w'=>∃v bs,e= .returned (.tuple #[v,.int .i64 0])/\zPF w' w.heap.size v R C bs (zY R C (zC6 M1 M2 m))/\Below w.heap.size w w':=by
 obtain⟨A1,rfl,h1⟩:=h1;obtain⟨A2,rfl,h2⟩:=h2;obtain⟨ao,n,cap,rfl,e2,e3,e4,-⟩:=id h1;obtain⟨bo,q,bcap,rfl,g2,g3,g4,-⟩:=id h2;have HX:=xgw e2;have HY:=xgw g2;have HS:=xgv hS;have HF1:=xgv hF1;have HF2:=xgv hF2;obtain rfl:n=R:=by rw[<-e2,hF1.1]
 obtain rfl:q=m:=by rw[<-g2,hF2.1]
 clear e2 g2 hS hF1 hF2;obtain⟨f,hf⟩:∃f:Nat->Nat->Int,zC6 M1 M2 q=f:=⟨_,rfl⟩;rw[hf];have HFE:qE (∀i j,f i j=zC6 M1 M2 q i j):=⟨fun i j=>by rw[<-hf]⟩;clear hf;go_enter Tryz.func135,Tryz.ntmps135;go_upto_region 1 with(fail)
 refine zB ?_;intro W0 hW0;obtain⟨hB0,bx1,bx2,br,hs0⟩:=yO hW0;obtain⟨c1,c2,c3,c4,c5,c6⟩:=bx1.three;obtain⟨d1,d2,d3,d4,d5,d6⟩:=bx2.three;go_wp2_with fail
 refine(zCA n C W0 hR hC).mono ?_;rintro e w2 ⟨u,bs,rfl,⟨hbl,A3,rfl,ho⟩,hb2⟩;obtain⟨oo,on,oc,rfl,-,-,-,-⟩:=id ho.rows;have hlts:=ho.lts;go_upto_region 4 with(fail)
 refine zB ?_;intro W3 hW3;obtain⟨hB3,T5,hs3⟩:=zK hW3;have bx1:=(bx1.below hb2).below hB3;have bx2:=(bx2.below hb2).below hB3;have br:=(br.below hb2).below hB3;have ho:=ho.below hB3;rw[zDm n C f]at ho;have hBt:=nx (nx hB0 hb2) hB3;have q2:=hb2.size;clear hW3 hW0 c1 c2 c3 c4 c5 c6 d1 d2 d3 d4 d5 d6;go_wp2;go_loopw [7] (fun iv wr=>∃i:Nat,i<=n/\iv= .int .i64 i/\Below w.heap.size w wr/\Blk wr w.heap.size 28 #[.int .i64 n,.int .i64 q,.slice ao n cap]/\Blk wr (w.heap.size+1) 28 #[.int .i64 q,.int .i64 C,.slice bo q bcap]∧
  Blk wr (w.heap.size+1+1) 28 #[.int .i64 0,.int .i64 0,.slice none 0 0]/\Blk wr w2.heap.size 28 #[.int .i64 n,.int .i64 C,.slice oo on oc]/\zT wr W0.heap.size (.slice oo on oc) C bs (zY n C (zBr f i 0))) (fun iv _=>n-(intOf iv).toNat)
 case atStart=>exact⟨0,by omega,rfl,hBt,bx1,bx2,br,T5,ho⟩
 case round=>
  obtain⟨i,hi,rfl,hb,bx1,bx2,br,T5,ho⟩:=hrel;obtain⟨c1,c2,c3,c4,c5,c6⟩:=bx1.three;by_cases hlt:i<n
  ·go_wp2
   clear c1 c2 c3 c4 c5 c6;go_loopw [8] (fun jv wr=>∃j:Nat,j<=C/\jv= .int .i64 j/\Below w.heap.size w wr/\Blk wr w.heap.size 28 #[.int .i64 n,.int .i64 q,.slice ao n cap]/\Blk wr (w.heap.size+1) 28 #[.int .i64 q,.int .i64 C,.slice bo q bcap]∧
    Blk wr (w.heap.size+1+1) 28 #[.int .i64 0,.int .i64 0,.slice none 0 0]/\Blk wr w2.heap.size 28 #[.int .i64 n,.int .i64 C,.slice oo on oc]/\zT wr W0.heap.size (.slice oo on oc) C bs (zY n C (zBr f i j))) (fun jv _=>C-(intOf jv).toNat)
   case atStart=>exact⟨0,by omega,rfl,hb,bx1,bx2,br,T5,ho⟩
   case round=>
    obtain⟨j,hj,rfl,hb,bx1,bx2,br,T5,ho⟩:=hrel;obtain⟨d1,d2,d3,d4,d5,d6⟩:=bx2.three;by_cases hjc:j<C
    ·go_wp2
     clear d1 d2 d3 d4 d5 d6;rw[zJ3]at ho;go_loopw [9] (fun kv wr=>∃k:Nat,k<=q/\kv= .int .i64 k/\Below w.heap.size w wr/\Blk wr w.heap.size 28 #[.int .i64 n,.int .i64 q,.slice ao n cap]/\Blk wr (w.heap.size+1) 28 #[.int .i64 q,.int .i64 C,.slice bo q bcap]∧
      Blk wr (w.heap.size+1+1) 28 #[.int .i64 0,.int .i64 0,.slice none 0 0]/\Blk wr w2.heap.size 28 #[.int .i64 n,.int .i64 C,.slice oo on oc]/\zT wr W0.heap.size (.slice oo on oc) C bs (zY n C (zMB f i j (zC6 M1 M2 k i j)))) (fun kv _=>q-(intOf kv).toNat)
     case atStart=>exact⟨0,by omega,rfl,hb,bx1,bx2,br,T5,ho⟩
     case round=>
      obtain⟨k,hk,rfl,hb,bx1,bx2,br,T5,ho⟩:=hrel;obtain⟨c1,c2,c3,c4,c5,c6⟩:=bx1.three;by_cases hkq:k<q
      ·obtain⟨d1,d2,d3,d4,d5,d6⟩:=bx2.three
       obtain⟨b,ra,rn,rc,zs,rfl,hbl1,hz,p1,hv⟩:=(h1.below hb).row (k:=i) (by rw[HX.out];exact hlt);have hzl:=HF1.out.2 zs (xgd hz);have hvl:=hv.len;obtain⟨b',z,s,a,l,c,rfl,hbl',hzk,q1,q2',hzv⟩:=hv.cell (k:=k) oM;have hkrn:k<rn:=by omega
       obtain⟨y,ya,yn,yc,ys,rfl,hyl1,hy,y1,hyv⟩:=(h2.below hb).row (k:=k) (by rw[HY.out];exact hkq);have hyl:=HF2.out.2 ys (xgd hy);have hyvl:=hyv.len;obtain⟨y',x,xs,xa,xl,xc,rfl,hyl',hyk,x1,x2,hxv⟩:=hyv.cell (k:=j) oM;have hjyn:j<yn:=by omega
       have he1:=xgw (zBE hz hzk);have he2:=xgw (zBE hy hyk);have HSM:=xgv (HS.out i hlt j hjc k hkq);clear hz hzk hzl hy hyk hyl hvl hyvl;obtain⟨g,bo',rfl,hg,hbo,hbo2,o1,ho3⟩:=ho.at_ (i:=i) oM;obtain⟨us,ua,ul,uc,u1,u2,u3,u4,uv⟩:=ho.cellAt hbo hjc;rw[yX hlt hjc,zLu]at uv;obtain⟨f1,f2,f3,f4,f5,f6⟩:=T5.three;have hio:i<on:=by omega
       have HO3:=xgw ho3;clear ho3;have lt1:=bx1.lt;have lt2:=bx2.lt;have lt5:=T5.lt;rw[<-he1.out]at hzv;rw[<-he2.out]at hxv;go_upto_region 13 with(fail)
       refine zC 33 rfl (RI wr (wr.heap.size) _ 35
         [VP 0 39 w2.heap.size 2,VSl 1 40 g on oc,VN 2 41 i,VP 3 42 g i,VSl 4 43 bo' C C,VN 5 44 j,VP 6 45 w2.heap.size 2,VSl 7 46 g on oc,VN 8 47 i,VP 9 48 g i,VSl 10 49 bo' C C,VN 11 50 j,VP 12 51 bo' (j*2),E 13 52 (.agg #[.bool us,.slice ua ul uc]),VP 14 53 w.heap.size 2,VSl 15 54 b n cap,VN 16 55 i,VP 17 56 b i,VSl 18 57 b' rn rc,VN 19 58 k,VP 20 59 b' (k*2),E 21 60 (.agg #[.bool s,.slice a l c]),VP 22 61 (w.heap.size+1) 2,VSl 23 62 y q bcap,VN 24 63 k,VP 25 64 y k,VSl 26 65 y' yn yc,VN 27 66 j,VP 28 67 y' (j*2),E 29 68 (.agg #[.bool xs,.slice xa xl xc]),EI 30 69 (ent M1 i k*ent M2 k j),EI 31 70 (zC6 M1 M2 k i j+ent M1 i k*ent M2 k j),VP 32 71 bo' (j*2)] [] []) kR RI.start (RI.fin kR ?fin1) ?steps1
       case steps1=>
        (repeat' constructor)<;>(intro L T wS hL hd hcl hI K hK;try refine zA rfl ?_)
        ·exact xgs (hI.k 6 rfl kR)
        ·have zt0:=hI.e mm0 (hd 0)
         have cc0:=hI.cell f3 oM nom;exact xgu
        ·exact xgs (hI.k 7 rfl kR)
        ·exact xgt (hI.e mm1 (hd 1)) (hI.e mm2 (hd 2))
        ·have zt3:=hI.e mm3 (hd 3)
         have cc0:=hI.cell o1 oM nom;exact xgu
        ·exact xgs (hI.k 8 rfl kR)
        ·exact xgs (hI.k 6 rfl kR)
        ·have zt6:=hI.e mm6 (hd 6)
         have cc0:=hI.cell f3 oM nom;exact xgu
        ·exact xgs (hI.k 7 rfl kR)
        ·exact xgt (hI.e mm7 (hd 7)) (hI.e mm8 (hd 8))
        ·have zt9:=hI.e mm9 (hd 9)
         have cc0:=hI.cell o1 oM nom;exact xgu
        ·exact xgs (hI.k 8 rfl kR)
        ·exact xgt (hI.e zAB (hd 10)) (hI.e zAG (hd 11))
        ·have zt12:=hI.e zAs (hd 12)
         have cc0:=hI.cell u1 oM nom;have cc1:=hI.cell u2 oM nom;exact xgu
        ·exact xgs (hI.k 2 rfl kR)
        ·have zt14:=hI.e zBq (hd 14)
         have cc0:=hI.cell c3 oM nom;exact xgu
        ·exact xgs (hI.k 7 rfl kR)
        ·exact xgt (hI.e zCV (hd 15)) (hI.e zDy (hd 16))
        ·have zt17:=hI.e zEy (hd 17)
         have cc0:=hI.cell p1 oM nom;exact xgu
        ·exact xgs (hI.k 9 rfl kR)
        ·exact xgt (hI.e zCl (hd 18)) (hI.e zE5 (hd 19))
        ·have zt20:=hI.e zEz (hd 20)
         have cc0:=hI.cell q1 oM nom;have cc1:=hI.cell q2' oM nom;exact xgu
        ·exact xgs (hI.k 3 rfl kR)
        ·have zt22:=hI.e zFa (hd 22)
         have cc0:=hI.cell d3 oM nom;exact xgu
        ·exact xgs (hI.k 9 rfl kR)
        ·exact xgt (hI.e zFb (hd 23)) (hI.e zHa (hd 24))
        ·have zt25:=hI.e zE1 (hd 25)
         have cc0:=hI.cell y1 oM nom;exact xgu
        ·exact xgs (hI.k 8 rfl kR)
        ·exact xgt (hI.e zIp (hd 26)) (hI.e zJf (hd 27))
        ·have zt28:=hI.e zKA (hd 28)
         have cc0:=hI.cell x1 oM nom;have cc1:=hI.cell x2 oM nom;exact xgu
        ·have zt21:=hI.e zE0 (hd 21)
         have zt29:=hI.e zIq (hd 29);go_simp;refine(zAb _ _ (ent M1 i k) (ent M2 k j) _ (hzv.ext hI.lext) (hxv.ext hI.lext) HSM.out.1 HSM.out.2.1).mono ?_;exact xgo
        ·have zt13:=hI.e zCS (hd 13)
         obtain⟨v30,zt30,h30⟩:=hI.vi zMA (hd 30);go_simp;refine(zB7 _ _ (zC6 M1 M2 k i j) (ent M1 i k*ent M2 k j) _ (uv.ext hI.lext) h30 HSM.out.2.2.2 HSM.out.2.2.1).mono ?_;exact xgo
        ·exact xgt (hI.e mm4 (hd 4)) (hI.e mm5 (hd 5))
       intro w9 hlw9 hbw9 holdw9 T hT;simp only[Fin,E,EI,VP,VSl,VN,xgg,xgh,xgi,xgj]at hT;obtain⟨va30,ha30,va31,ha31,rfl⟩:=hT;simp only[xgl,xgk];obtain⟨pn,pa,pl,pc,px,rfl,hpx⟩:=id ha31;have HPX:=xgw hpx;clear hpx;have ho9:=ho.below hbw9;obtain⟨sn,sa,sl,sc,z1,z2,z3,z4,-⟩:=ho9.cellAt hbo hjc;have hbolt:=hlts i bo' hbo;have hset:=ho9.set hbo hjc ha31;go_wp2;go_roundw
       case rel=>
        rw[zNa hlt hjc]at hset;exact⟨k+1,by omega,by simp,zO (zO (nx hb hbw9) oM _ _) oM _ _,(zV _ _ _ _ _ _ _ oM).trans (bx1.below hbw9),(zV _ _ _ _ _ _ _ oM).trans (bx2.below hbw9),(zV _ _ _ _ _ _ _ oM).trans (br.below hbw9),(zV _ _ _ _ _ _ _ oM).trans (T5.below hbw9),hset.1⟩
       case measure=>simp[intOf];omega
      ·obtain rfl:k=q:=by omega
       rw[<-HFE.out,zNZ]at ho;go_wp2;go_roundw
       case rel=>exact⟨j+1,by omega,by simp,hb,bx1,bx2,br,T5,ho⟩
       case measure=>simp[intOf];omega
    ·obtain rfl:j=C:=by omega
     rw[zGS]at ho;go_wp2;go_roundw
     case rel=>exact⟨i+1,by omega,by simp,hb,bx1,bx2,br,T5,ho⟩
     case measure=>simp[intOf];omega
  ·obtain rfl:i=n:=by omega
   rw[zGR]at ho;obtain⟨f1,f2,f3,f4,f5,f6⟩:=T5.three;obtain⟨r1,r2,r3,r4,r5,r6⟩:=br.three;have q1:=hB0.size;go_wp2;refine bodyPost_ret (zFf rfl _ rfl (br.put3 _ _ _) rfl) rfl ⟨_,bs,rfl,⟨hbl,_,rfl,?_⟩,zO (zO (zO hb oM 0 _) oM 1 _) oM 2 _⟩;exact(ho.keep (fun k hk=>yY _ _ k _ _ _ oM) (br.lext3 dE _ _ _)).mono q1
theorem zGK(v1 v2:Value)(R m C:Nat)(M1 M2:List (List Int))(w:World)(h1:jE w v1 R m M1)(h2:jE w v2 m C M2)(hF1:jT R m M1)(hF2:jT m C M2)(hR:R<=1000000)(hm:m<=1000000)(hC:C<=1000000)(hS:zCd M1 M2 R m C):
  Calls Tryz.prog 53 #[v1,v2] w (zBB w R C (zY R C (zC6 M1 M2 m))):=by
 have h1':=h1;have h2':=h2;obtain⟨A1,rfl,h1⟩:=h1;obtain⟨A2,rfl,h2⟩:=h2;obtain⟨ao,n,cap,rfl,-⟩:=id h1;obtain⟨bo,q,bcap,rfl,-⟩:=id h2;have HS:=xgv hS;have HF1:=xgv hF1;have HF2:=xgv hF2;clear hS hF1 hF2;go_enter Tryz.func53,Tryz.ntmps53;go_upto_region 1 with(fail)
 refine zB ?_;intro W0 hW0;obtain⟨hB0,bx1,bx2,br,hs0⟩:=yO hW0;obtain⟨c1,c2,c3,c4,c5,c6⟩:=bx1.three;obtain⟨d1,d2,d3,d4,d5,d6⟩:=bx2.three;go_wp2_with fail
 refine(zLT _ _ R m C M1 M2 W0 (h1'.below hB0) (h2'.below hB0) HF1.out HF2.out hR hm hC HS.out).mono ?_;rintro e w2 ⟨u,bs,rfl,⟨hbl,A3,rfl,ho⟩,hb2⟩;obtain⟨oo,on,oc,rfl,-,-,-,-⟩:=id ho.rows;go_upto_region 2 with(fail)
 refine zB ?_;intro W3 hW3;obtain⟨hB3,T5,hs3⟩:=zK hW3;have br:=(br.below hb2).below hB3;have ho:=ho.below hB3;have hBt:=nx (nx hB0 hb2) hB3;have q2:=hB0.size;clear hW3 hW0 c1 c2 c3 c4 c5 c6 d1 d2 d3 d4 d5 d6;obtain⟨f1,f2,f3,f4,f5,f6⟩:=T5.three;obtain⟨r1,r2,r3,r4,r5,r6⟩:=br.three;go_wp2;refine yE rfl rfl rfl (br.put3 _ _ _) ⟨_,bs,rfl,⟨hbl,_,rfl,?_⟩,zO (zO (zO hBt oM 0 _) oM 1 _) oM 2 _⟩;exact(ho.keep (fun k hk=>yY _ _ k _ _ _ oM) (br.lext3 dE _ _ _)).mono q2

def zRS(n:Nat)(R1 C1 R2 C2:Int)(M1 M2:List (List Int)):Bool:=
 decide (R1=n/\C1=n/\qX R1 C1 M1) && (decide (R2=n/\C2=n/\qX R2 C2 M2) && decide (zY n n (zC6 M1 M2 n)=zY n n idf))
def zBn:Nat->List Int->Int
 |_,[]=>-1
 |k,z::zs=>if z≠0 then(k:Int)else zBn (k+1) zs
structure qU(S:List Nat)(w w':World):Prop where
 bel:Below 0 w w'
 lext:yI w w'
 old:∀k,k<w.heap.size->k ∉ S->w'.heap[k]?=w.heap[k]?
theorem qU.refl(S:List Nat)(w:World):qU S w w:=⟨Below.refl _ _,yI.refl _,fun _ _ _=>rfl⟩
theorem qU.of{w w':World}(S:List Nat)(h:Below w.heap.size w w'):qU S w w':=⟨h.mono (Nat.zero_le _),lx h,fun k hk _=>h.block k hk⟩
theorem qU.trans{S:List Nat}{a b c:World}(h:qU S a b)(k:qU S b c):qU S a c:=
 ⟨h.bel.trans k.bel,h.lext.trans k.lext,fun i hi hn=>(k.old i (Nat.lt_of_lt_of_le hi h.bel.size) hn).trans (h.old i hi hn)⟩
theorem qC.only{S:List Nat}{w w':World}{b:Nat}{zs:List Int}(h:qC w b zs)(k:qU S w w')(hb:b ∉ S):qC w' b zs:=h.old (k.old b h.lt hb) k.lext
theorem qC.vec{w:World}{b n cap:Nat}{zs:List Int}(h:qC w b zs)(hn:zs.length=n)(hc:n<=cap)(hc2:cap<=9223372036854775807):qN w (.slice (some ⟨b,0,none⟩) n cap) zs:=
 ⟨_,_,_,rfl,hn,hc,hc2,fun _=>⟨b,rfl,h⟩⟩
def zM(n:Nat)(f:Nat->Int):List Int:=(List.range n).map f
theorem zD(n:Nat)(f:Nat->Int):(zM n f).length=n:=by simp[zM]
theorem zP{n:Nat}{f:Nat->Int}{j:Nat}(h:j<n):(zM n f)[j]?=some (f j):=by simp[zM,h]
theorem zAk{n:Nat}{f:Nat->Int}{j:Nat}(z:Int):(zM n f).set j z=zM n (fun t=>if t=j then z else f t):=by
 apply List.ext_getElem
 ·simp[zM]
 ·intro a h1 h2
  by_cases e:a=j
  ·subst e;simp[zM]
  ·have:j≠a:=fun h=>e h.symm
   simp[zM,this,e]
theorem zQ{n:Nat}{f g:Nat->Int}(h:∀t,t<n->f t=g t):zM n f=zM n g:=by
 unfold zM;exact List.map_congr_left fun t ht=>h t (List.mem_range.1 ht)
def qA(f g:Nat->Int)(j:Nat):Nat->Int:=fun t=>if t<j then f t else g t
theorem zGb(bv bw n capv capw:Nat)(f g:Nat->Int)(kv:Value)(k:Int)(w:World)(hv:qC w bv (zM n f))(hw:qC w bw (zM n g))(hne:bv≠bw)(hk:zH w kv k)
  (hn:n<=1000000) (hcv:n<=capv) (hcv2:capv<=9223372036854775807) (hcw:n<=capw) (hcw2:capw<=9223372036854775807)
  (hS:∀t,t<n->Sm (f t)/\Sm (g t)/\Sm (k*g t)) (hks:Sm k):
  Calls Tryz.prog 158 #[.slice (some ⟨bv,0,none⟩) n capv,.slice (some ⟨bw,0,none⟩) n capw,kv] w fun e w'=>(∃u,e= .returned u)/\qU [bv] w w'/\qC w' bv (zM n (fun t=>f t+k*g t)):=by
 have HS:=xgv hS;have HK:=xgv hks;obtain⟨kn,ka,kl,kc,kx,rfl,hkx⟩:=id hk;have HKX:=xgw hkx;clear hS hks hkx;have hlv:=hv.lt;have hlw:=hw.lt;obtain⟨F,hF⟩:∃F:Nat->Int,(fun t=>f t+k*g t)=F:=⟨_,rfl⟩;rw[hF];have HF:qE (∀t,F t=f t+k*g t):=⟨fun t=>by rw[<-hF]⟩;clear hF;go_enter Tryz.func158,Tryz.ntmps158;go_upto_region 1 with(fail)
 refine zB ?_;intro W0 hW0;obtain⟨hB0,bx,hs0⟩:=zK hW0;have hv0:=hv.below hB0;have hw0:=hw.below hB0;have hk0:=hk.ext (lx hB0);have hst:zM n f=zM n (qA F f 0):=zQ fun t _=>by unfold qA;rw[if_neg oM]
 rw[hst]at hv0;have hO:=qU.of [bv] hB0;clear hW0 hst hv hw hk;go_wp2;go_loopw [10] (fun jv wr=>∃j:Nat,j<=n/\jv= .int .i64 j/\qU [bv] w wr/\Blk wr w.heap.size 35 #[.bool kn,.slice ka kl kc]/\zH wr (.agg #[.bool kn,.slice ka kl kc]) k/\qC wr bw (zM n g)/\qC wr bv (zM n (qA F f j))) (fun jv _=>n-(intOf jv).toNat)
 case atStart=>exact⟨0,by omega,rfl,hO,bx,hk0,hw0,hv0⟩
 case round=>
  obtain⟨j,hj,rfl,hO,bx,hk,hw,hv⟩:=hrel;by_cases hlt:j<n
  ·obtain⟨xs,xa,xl,xc,p1,p2,-,-,hx⟩:=hw.cell (zP hlt)
   have hlw':=hw.lt;have hlb:=bx.lt;go_upto_region 4 with(fail)
   refine zB ?_;intro W6 hW6;obtain⟨hB6,T7,hs6⟩:=zK hW6;obtain⟨d1,d2,d3,d4⟩:=T7.two;have hO:=hO.trans (qU.of [bv] hB6);have bx:=bx.below hB6;have hk:=hk.ext (lx hB6);have hw:=hw.below hB6;have hv:=hv.below hB6;have hx:=hx.ext (lx hB6);clear p1 p2 hW6;go_wp2_with fail
   refine(qV _ (g j) W6 hx.weak).mono ?_;rintro e w7 ⟨rfl,hb7⟩;have hO:=hO.trans (qU.of [bv] hb7);have bx:=bx.below hb7;have hk:=hk.ext (lx hb7);have hw:=hw.below hb7;have hv:=hv.below hb7;have hx:=hx.ext (lx hb7);have T7:=T7.below hb7;clear d1 d2 d3 d4;by_cases hz0:g j=0
   ·rw [zA3 hz0]
    go_wp2;go_roundw
    case rel=>
     have hq:zM n (qA F f j)=zM n (qA F f (j+1)):=zQ fun t _=>by
      unfold qA;by_cases h1:t<j
      ·rw[if_pos h1,if_pos oM]
      ·by_cases h2:t=j
       ·subst h2
        rw[if_neg h1,if_pos oM,HF.out,hz0,Int.mul_zero,Int.add_zero]
       ·rw[if_neg h1,if_neg oM]
     rw[hq]at hv;exact⟨j+1,by omega,by simp,hO,bx,hk,hw,hv⟩
    case measure=>simp[intOf];omega
   ·have hc:=zCf hz0
    obtain⟨k0,hk0⟩:∃k0,qJ (g j) 0=k0:=⟨_,rfl⟩;rw[hk0]at hc ⊢
    clear hk0;obtain⟨ys,ya,yl,yc,v1,v2,-,-,hy⟩:=hv.cell (zP hlt);have hyf:qA F f j j=f j:=by unfold qA;rw[if_neg oM]
    rw[hyf]at hy;obtain⟨d1,d2,d3,d4⟩:=T7.two;obtain⟨k1,k2,k3,k4⟩:=bx.two;have lv:=hv.lt;have lb:=bx.lt;have l7:=T7.lt;have HSJ:=xgv (HS.out j hlt);go_upto_region 5 with(fail)
    refine zC 11 rfl (RI w7 (w7.heap.size) _ 35
      [VSl 0 18 bv n capv,VN 1 19 j,VSl 2 20 bv n capv,VN 3 21 j,VP 4 22 bv (j*2),E 5 23 (.agg #[.bool ys,.slice ya yl yc]),E 6 24 (.agg #[.bool kn,.slice ka kl kc]),E 7 25 (.agg #[.bool xs,.slice xa xl xc]),EI 8 26 (k*g j),EI 9 27 (f j+k*g j),VP 10 28 bv (j*2)] [] []) kR RI.start (RI.fin kR ?fin1) ?steps1
    case steps1=>
     (repeat' constructor)<;>(intro L T wS hL hd hcl hI K hK;try refine zA rfl ?_)
     ·exact xgs (hI.k 0 rfl kR)
     ·exact xgs (hI.k 6 rfl kR)
     ·exact xgs (hI.k 0 rfl kR)
     ·exact xgs (hI.k 6 rfl kR)
     ·exact xgt (hI.e mm2 (hd 2)) (hI.e mm3 (hd 3))
     ·have zt4:=hI.e mm4 (hd 4)
      have cc0:=hI.cell v1 oM nom;have cc1:=hI.cell v2 oM nom;exact xgu
     ·have zt:=hI.k 5 rfl kR
      have cc0:=hI.cell k1 oM nom;have cc1:=hI.cell k2 oM nom;exact xgu
     ·have zt:=hI.k 7 rfl kR
      have cc0:=hI.cell d1 oM nom;have cc1:=hI.cell d2 oM nom;exact xgu
     ·have zt6:=hI.e mm6 (hd 6)
      have zt7:=hI.e mm7 (hd 7);go_simp;refine(jO _ _ k (g j) _ (hk.ext hI.lext).weak (hx.ext hI.lext).weak HK.out HSJ.out.2.1).mono ?_;exact xgo
     ·have zt5:=hI.e mm5 (hd 5)
      obtain⟨v8,zt8,h8⟩:=hI.vi mm8 (hd 8);go_simp;refine(zBw _ _ (f j) (k*g j) _ (hy.ext hI.lext).weak h8.weak HSJ.out.1 HSJ.out.2.2).mono ?_;exact xgo
     ·exact xgt (hI.e mm0 (hd 0)) (hI.e mm1 (hd 1))
    intro w9 hlw9 hbw9 holdw9 T hT;simp only[Fin,E,EI,VP,VSl,VN,xgg,xgh,xgi,xgj]at hT;obtain⟨va8,ha8,va9,ha9,rfl⟩:=hT;simp only[xgl,xgk];obtain⟨pn,pa,pl,pc,px,rfl,hpx⟩:=id ha9;have HPX:=xgw hpx;clear hpx;have hv9:=hv.below hbw9;obtain⟨zs,za,zl,zc,z1,z2,z3,z4,-⟩:=hv9.cell (zP hlt);have hset:=hv9.set (k:=j) (by rw[zD];exact hlt) ha9;have hO:=hO.trans (qU.of [bv] hbw9);have hk:=hk.ext (lx hbw9);have bx:=bx.below hbw9;have hw:=hw.below hbw9;have hsz:=hO.bel.size;go_wp2;go_roundw
    case rel=>
     have hq:(zM n (qA F f j)).set j (f j+k*g j)=zM n (qA F f (j+1)):=by
      rw[zAk];exact zQ fun t _=>by
       unfold qA;by_cases h2:t=j
       ·subst h2
        rw[if_pos rfl,if_pos oM,HF.out]
       ·rw[if_neg h2]
        by_cases h1:t<j
        ·rw[if_pos h1,if_pos oM]
        ·rw[if_neg h1,if_neg oM]
     rw[hq]at hset;refine⟨j+1,by omega,by simp,hO.trans ⟨zO (zO (Below.refl _ _) (Nat.zero_le _) _ _) (Nat.zero_le _) _ _,hset.2,fun i _ hi=>zV _ _ _ _ _ _ _ (by simpa using hi)⟩,(zV _ _ _ _ _ _ _ oM).trans bx,hk.ext hset.2,hw.old (zV _ _ _ _ _ _ _ (Ne.symm hne)) hset.2,hset.1⟩
    case measure=>simp[intOf];omega
  ·obtain rfl:j=n:=by omega
   have hq:zM j (qA F f j)=zM j F:=zQ fun t ht=>by unfold qA;rw[if_pos ht]
   rw[hq]at hv;go_wp2;exact bodyPost_end (results_none rfl _ _ _) rfl ⟨⟨_,rfl⟩,hO,hv⟩
theorem zT.only{w w':World}{base:Nat}{A:Value}{C:Nat}{bs:List Nat}{M:List (List Int)}{S:List Nat}(h:zT w base A C bs M)(ho:qU S w w')(hd:∀b∈bs,b ∉ S)(hr:∀g∈S,∃r,qC w g r):zT w' base A C bs M:=by
 refine⟨⟨h.own.1,?_⟩,h.len,fun k b r h1 h2=>by
  obtain⟨e1,e2,e3⟩:=h.row k b r h1 h2;exact⟨e1,e2,e3.only ho (hd b (xgd h1))⟩,h.nodup,h.cb⟩
 rcases h.own.2 with h1|⟨g,cap,cur,e1,e2,e3,e4⟩
 ·exact .inl h1
 ·refine .inr ⟨g,cap,cur,e1,e2,?_,e4⟩
  refine(ho.old g (Array.getElem?_eq_some_iff.1 e3).1 ?_).trans e3;intro hg;obtain⟨r,hr⟩:=hr g hg;have:=zDA h.own hr;rw[e1]at this;exact this rfl
theorem zT.setRow{w w':World}{base:Nat}{A:Value}{C:Nat}{bs:List Nat}{M:List (List Int)}{i b:Nat}{r:List Int}(h:zT w base A C bs M)(hb:bs[i]?=some b)(ho:qU [b] w w')(hr:qC w' b r)(hl:r.length=C):
  zT w' base A C bs (M.set i r):=by
 have hib:=(xge.1 hb).1;have hiM:i<M.length:=by rw[h.len];exact hib
 obtain⟨r1,r2,r3⟩:=h.row i b M[i] hb (xga hiM);refine⟨⟨h.own.1,?_⟩,by simp[h.len],?_,h.nodup,h.cb⟩
 ·rcases h.own.2 with h1|⟨g,cap,cur,e1,e2,e3,e4⟩
  ·exact .inl h1
  ·refine .inr ⟨g,cap,cur,e1,e2,?_,e4⟩
   refine(ho.old g (Array.getElem?_eq_some_iff.1 e3).1 ?_).trans e3;intro hg;have:=zDA h.own r3;rw[e1]at this;simp at hg;exact this (by rw[hg];rfl)
 ·intro k b' r' hk hr'
  by_cases e:k=i
  ·subst e
   rw[hb]at hk;injection hk with hk
   subst hk;rw[List.getElem?_set_self hiM]at hr';injection hr' with hr'
   subst hr';exact⟨r1,hl,hr⟩
  ·rw[List.getElem?_set_ne (Ne.symm e)]at hr'
   obtain⟨f1,f2,f3⟩:=h.row k b' r' hk hr';have hkb:=(xge.1 hk).1;have hne:b'≠b:=by
    intro hh;subst hh;have h1:=(xge.1 hk).2;have h2:=(xge.1 hb).2;exact e ((List.getElem_inj h.nodup).1 (h1.trans h2.symm))
   exact⟨f1,f2,f3.only ho (by simpa using hne)⟩
def zAv(F:Nat->Nat->Int)(i j:Nat)(k:Int):Nat->Nat->Int:=fun a b=>if a=i then F i b+k*F j b else F a b
theorem zJv{R C:Nat}{F:Nat->Nat->Int}{i j:Nat}{k:Int}(hi:i<R):(zY R C F).set i (zM C (fun t=>F i t+k*F j t))=zY R C (zAv F i j k):=by
 apply List.ext_getElem
 ·simp[zY]
 ·intro a h1 h2
  by_cases e:a=i
  ·subst e
   rw[List.getElem_set_self];simp[zY,zM,zAv]
  ·have e3:i≠a:=fun h=>e h.symm
   rw[List.getElem_set_ne e3];simp[zY,zAv,e]
theorem zT.rowAt{w:World}{base:Nat}{A:Value}{R C:Nat}{bs:List Nat}{F:Nat->Nat->Int}(h:zT w base A C bs (zY R C F)){i:Nat}(hi:i<R):∃b,bs[i]?=some b/\qC w b (zM C (F i)):=by
 have hl:bs.length=R:=by rw[<-h.len];simp[zY]
 refine⟨bs[i],xga oM,?_⟩;exact(h.row i bs[i] (zM C (F i)) (xga oM) (zAW R C F hi)).2.2
theorem zFp{w:World}{base:Nat}{A:Value}{R C:Nat}{bs:List Nat}{F:Nat->Nat->Int}(h:zT w base A C bs (zY R C F)){i j bi bj:Nat}(hi:i<R)(hj:j<R)(hij:i≠j)(hbi:bs[i]?=some bi)(hbj:bs[j]?=some bj)(kv:Value)(k:Int)
  (hk:zH w kv k) (hC:C<=1000000) (hS:∀t,t<C->Sm (F i t)/\Sm (F j t)/\Sm (k*F j t)) (hks:Sm k):
  Calls Tryz.prog 158 #[.slice (some ⟨bi,0,none⟩) C C,.slice (some ⟨bj,0,none⟩) C C,kv] w fun e w'=>(∃u,e= .returned u)/\qU [bi] w w'/\zT w' base A C bs (zY R C (zAv F i j k)):=by
 obtain⟨b1,e1,r1⟩:=h.rowAt hi;obtain⟨b2,e2,r2⟩:=h.rowAt hj;obtain rfl:b1=bi:=Option.some.inj (e1.symm.trans hbi);obtain rfl:b2=bj:=Option.some.inj (e2.symm.trans hbj);have hne:b1≠b2:=by
  intro hh;subst hh;obtain⟨f1,f2⟩:=xge.1 e1;obtain⟨g1,g2⟩:=xge.1 e2;exact hij ((List.getElem_inj h.nodup).1 (f2.trans g2.symm))
 refine(zGb b1 b2 C C C (F i) (F j) kv k w r1 r2 hne hk hC (xgf _) oM (xgf _) oM hS hks).mono ?_;rintro e w' ⟨hu,ho,hr⟩;refine⟨hu,ho,?_⟩;rw[<-zJv hi];exact h.setRow e1 ho hr (zD _ _)
def Wri(w:World)(A:Value)(R C:Nat)(bs:List Nat)(F:Nat->Nat->Int):Prop:=zT w 0 A C bs (zY R C F)
theorem Wri.below{w w':World}{A:Value}{R C:Nat}{bs:List Nat}{F:Nat->Nat->Int}(h:Wri w A R C bs F)(hb:Below w.heap.size w w'):Wri w' A R C bs F:=zT.below h hb
theorem Wri.len{w:World}{A:Value}{R C:Nat}{bs:List Nat}{F:Nat->Nat->Int}(h:Wri w A R C bs F):bs.length=R:=by rw[<-zT.len h];simp[zY]
theorem Wri.blk{w:World}{A:Value}{R C:Nat}{bs:List Nat}{F:Nat->Nat->Int}(h:Wri w A R C bs F){b:Nat}(hb:b∈bs):∃r,qC w b r:=by
 obtain⟨k,hk,e⟩:=List.getElem_of_mem hb;have hl:=h.len;obtain⟨b',e1,e2⟩:=zT.rowAt h (i:=k) oM;rw[xga hk,e]at e1;injection e1 with e1
 subst e1;exact⟨_,e2⟩
theorem Wri.only{w w':World}{A:Value}{R C:Nat}{bs:List Nat}{F:Nat->Nat->Int}{b:Nat}{r:List Int}(h:Wri w A R C bs F)(ho:qU [b] w w')(hn:b ∉ bs)(hr:qC w b r):Wri w' A R C bs F:=
 zT.only h ho (fun x hx=>by
  intro hh;simp at hh;subst hh;exact hn hx) (fun g hg=>by
  simp at hg;subst hg;exact⟨_,hr⟩)
def Far(xs ys:List Nat):Prop:=∀b,b∈xs->b ∉ ys
structure zD4(w:World)(As At Ai:Value)(n Cs Ct:Nat)(bss bst bsi:List Nat)(S T I:Nat->Nat->Int):Prop where
 s:Wri w As n Cs bss S
 t:Wri w At n Ct bst T
 i:Wri w Ai n Ct bsi I
 st:Far bss bst
 si:Far bss bsi
 ti:Far bst bsi
 ast:∀g,As.ownBlock=some g->At.ownBlock≠some g
 asi:∀g,As.ownBlock=some g->Ai.ownBlock≠some g
 ati:∀g,At.ownBlock=some g->Ai.ownBlock≠some g
abbrev tRR:TypeId:=26
def zKD(C:Nat)(F:Nat->Nat->Int)(i j:Nat)(k:Int):Prop:=∀t,t<C->Sm (F i t)/\Sm (F j t)/\Sm (k*F j t)
def swp(i j:Nat)(k:Nat):Nat:=if k=i then j else if k=j then i else k
def zRi(bs:List Nat)(i j:Nat):List Nat:=(bs.set i (bs.getD j 0)).set j (bs.getD i 0)
def zFl(F:Nat->Nat->Int)(i j:Nat):Nat->Nat->Int:=fun a b=>F (swp i j a) b
def zAt(F:Nat->Nat->Int)(i:Nat):Nat->Nat->Int:=fun a b=>if a=i then-(F a b)else F a b
def trF(F:Nat->Nat->Int):Nat->Nat->Int:=fun a b=>F b a
def qQ(F:Nat->Nat->Int)(i j:Nat)(m0 m1 m2 m3:Int):Nat->Nat->Int:=fun a b=>if a=i then m0*F i b+m1*F j b else if a=j then m2*F i b+m3*F j b else F a b
structure Bst where
 s:Nat->Nat->Int
 t:Nat->Nat->Int
 i:Nat->Nat->Int
def Bst.add(x:Bst)(i j:Nat)(k:Int):Bst:=⟨zAv x.s i j k,zAv x.t i j k,zAv x.i j i (-k)⟩
def Bst.swap(x:Bst)(i j:Nat):Bst:=⟨zFl x.s i j,zFl x.t i j,zFl x.i i j⟩
def Bst.neg(x:Bst)(i:Nat):Bst:=⟨zAt x.s i,zAt x.t i,zAt x.i i⟩
def okF(B R C:Nat)(F:Nat->Nat->Int):Prop:=∀a,a<R->∀b,b<C->(F a b).natAbs<B
instance (B R C:Nat) (F:Nat->Nat->Int):Decidable (okF B R C F):=by unfold okF;infer_instance
def okB(B n Cs Ct:Nat)(x:Bst):Prop:=okF B n Cs x.s/\okF B n Ct x.t/\okF B n Ct x.i
instance (B n Cs Ct:Nat) (x:Bst):Decidable (okB B n Cs Ct x):=by unfold okB;infer_instance
def zDe(B n Cs Ct:Nat)(x:Bst)(i j:Nat)(k:Int):Prop:=
 k.natAbs<B/\(∀t,t<Cs->(k*x.s j t).natAbs<B)/\(∀t,t<Ct->(k*x.t j t).natAbs<B/\(k*x.i i t).natAbs<B)/\okB B n Cs Ct (x.add i j k)
instance (B n Cs Ct:Nat) (x:Bst) (i j:Nat) (k:Int):Decidable (zDe B n Cs Ct x i j k):=by unfold zDe;infer_instance
def lead(C:Nat)(F:Nat->Nat->Int)(i:Nat):Int:=zBn 0 (zM C (F i))
def adv(L:Nat->Int)(c:Int):Nat->Nat->Nat
 |0,k=>k
 |m+1,k=>if L k<c then adv L c m (k+1)else k
def zQn(k:Nat):Nat->Bst->Bst
 |0,x=>x
 |m+1,x=>zQn k m (x.swap (k+m+1) (k+m))
def zNu(B n Cs Ct m rank:Nat):Nat->Nat->Bst->Option (Bst × Bool)
 |0,_,_=>none
 | f +1,k,x=>
  if lead Cs x.s m<0 then some (x,false)
  else if adv (lead Cs x.s) (lead Cs x.s m) (rank-k) k<rank/\lead Cs x.s (adv (lead Cs x.s) (lead Cs x.s m) (rank-k) k)=lead Cs x.s m then
   if zDe B n Cs Ct x m (adv (lead Cs x.s) (lead Cs x.s m) (rank-k) k) (-(x.s m (lead Cs x.s m).toNat/x.s (adv (lead Cs x.s) (lead Cs x.s m) (rank-k) k) (lead Cs x.s m).toNat))then
    zNu B n Cs Ct m rank f (adv (lead Cs x.s) (lead Cs x.s m) (rank-k) k)
     (if x.s m (lead Cs x.s m).toNat%x.s (adv (lead Cs x.s) (lead Cs x.s m) (rank-k) k) (lead Cs x.s m).toNat=0 then x.add m (adv (lead Cs x.s) (lead Cs x.s m) (rank-k) k) (-(x.s m (lead Cs x.s m).toNat/x.s (adv (lead Cs x.s) (lead Cs x.s m) (rank-k) k) (lead Cs x.s m).toNat))
      else(x.add m (adv (lead Cs x.s) (lead Cs x.s m) (rank-k) k) (-(x.s m (lead Cs x.s m).toNat/x.s (adv (lead Cs x.s) (lead Cs x.s m) (rank-k) k) (lead Cs x.s m).toNat))).swap m (adv (lead Cs x.s) (lead Cs x.s m) (rank-k) k))
   else none
  else some (zQn (adv (lead Cs x.s) (lead Cs x.s m) (rank-k) k) (rank-adv (lead Cs x.s) (lead Cs x.s m) (rank-k) k) ((if x.s m (lead Cs x.s m).toNat<0 then x.neg m else x).swap m rank),true)
def zPz(B n Cs Ct:Nat)(cols:Nat->Int)(i:Nat):Nat->Nat->Bst->Option Bst
 |0,_,x=>some x
 |m+1,j,x=>
  if cols j<0 then none
  else if x.s i (cols j).toNat=0 then zPz B n Cs Ct cols i m (j+1) x
  else if x.s j (cols j).toNat=0 then none
  else if x.s i (cols j).toNat/x.s j (cols j).toNat=0 then zPz B n Cs Ct cols i m (j+1) x
  else if zDe B n Cs Ct x i j (-(x.s i (cols j).toNat/x.s j (cols j).toNat))then zPz B n Cs Ct cols i m (j+1) (x.add i j (-(x.s i (cols j).toNat/x.s j (cols j).toNat)))
  else none
def zQm(B n Cs Ct:Nat)(cols:Nat->Int)(rank:Nat):Nat->Bst->Option Bst
 |0,x=>some x
 |i+1,x=>(zPz B n Cs Ct cols i (rank-(i+1)) (i+1) x).bind (zQm B n Cs Ct cols rank i)
def zOy(B n Cs Ct rank:Nat)(x:Bst):Option Bst:=zQm B n Cs Ct (lead Cs x.s) rank rank x
def zPQ(B n Cs Ct f:Nat):Nat->Nat->Nat->Bst->Option Bst
 |0,_,_,x=>some x
 |l+1,m,rank,x=>
  (zNu B n Cs Ct m rank f 0 x).bind fun r=>(zOy B n Cs Ct (if r.2 then rank+1 else rank) r.1).bind fun y=>zPQ B n Cs Ct f l (m+1) (if r.2 then rank+1 else rank) y
def zQg(B n Cs Ct f:Nat)(x:Bst):Option Bst:=zPQ B n Cs Ct f n 0 0 x
structure W5 where
 s:Nat->Nat->Int
 u:Nat->Nat->Int
 v:Nat->Nat->Int
 w:Nat->Nat->Int
 x:Nat->Nat->Int
def zPm(B R C Cu Cw f:Nat)(z:W5):Option W5:=
 (zQg B R C Cu f ⟨z.s,z.u,z.v⟩).bind fun a=>(zQg B C R Cw f ⟨trF a.s,z.w,z.x⟩).bind fun b=>some ⟨trF b.s,a.t,a.i,b.t,b.i⟩
def zKY(R C:Nat)(F:Nat->Nat->Int):Prop:=∀a,a<R->∀b,b<C->a≠b->F a b=0
instance (R C:Nat) (F:Nat->Nat->Int):Decidable (zKY R C F):=by unfold zKY;infer_instance
def zPn(B R C Cu Cw f:Nat):Nat->W5->Option W5
 |0,_=>none
 |r+1,z=>(zPm B R C Cu Cw f z).bind fun y=>if zKY R C y.s then some y else zPn B R C Cu Cw f r y
def zQf(F:Nat->Nat->Int)(i j:Nat):Nat->Nat->Int:=fun a b=>if a=j/\b=j then F i i*(F j j/((Int.gcd (F i i) (F j j):Nat):Int))else if a=i/\b=i then((Int.gcd (F i i) (F j j):Nat):Int)else F a b
def zRA(z:W5)(i j:Nat)(s t:Int):W5:=
 ⟨zQf z.s i j,qQ z.u i j s t (-(z.s j j/((Int.gcd (z.s i i) (z.s j j):Nat):Int))) (z.s i i/((Int.gcd (z.s i i) (z.s j j):Nat):Int)),
  qQ z.v i j (z.s i i/((Int.gcd (z.s i i) (z.s j j):Nat):Int)) (z.s j j/((Int.gcd (z.s i i) (z.s j j):Nat):Int)) (-t) s,
  qQ z.w i j 1 1 (-(t*(z.s j j/((Int.gcd (z.s i i) (z.s j j):Nat):Int)))) (1-t*(z.s j j/((Int.gcd (z.s i i) (z.s j j):Nat):Int))),
  qQ z.x i j (1-t*(z.s j j/((Int.gcd (z.s i i) (z.s j j):Nat):Int))) (t*(z.s j j/((Int.gcd (z.s i i) (z.s j j):Nat):Int))) (-1) 1⟩
def Bez(x y s t:Int):Prop:=s*x+t*y=((Int.gcd x y:Nat):Int)/\s.natAbs<=max 1 y.natAbs/\t.natAbs<=max 1 x.natAbs
inductive zP1 (n:Nat):W5->W5->Prop
 |refl (z:W5):zP1 n z z
 |step (z y:W5) (i j:Nat) (s t:Int):zP1 n z y->i<j->j<n->¬ y.s i i∣y.s j j->Bez (y.s i i) (y.s j j) s t->zP1 n z (zRA y i j s t)
def zQe(i:Nat):Nat->Nat->(Nat->Nat->Int)->(Nat->Nat->Int)
 |0,_,F=>F
 |m+1,j,F=>zQe i m (j+1) (if F i i∣F j j then F else zQf F i j)
def zQ9:Nat->Nat->(Nat->Nat->Int)->(Nat->Nat->Int)
 |0,_,F=>F
 |m+1,i,F=>zQ9 m (i+1) (zQe i m (i+1) F)
example:(zPn 1000000 2 1 2 1 20 5 ⟨fun a _=>if a=0 then 4 else 6,fun a b=>if a=b then 1 else 0,fun a b=>if a=b then 1 else 0,fun _ _=>1,fun _ _=>1⟩).map (fun z=>(z.s 0 0,z.s 1 0,z.u 0 0,z.u 0 1,z.u 1 0,z.u 1 1))=some (2,0,-1,1,3,-2):=by decide
structure zX(Z:Nat->Prop)(w w':World):Prop where
 bel:Below 0 w w'
 lext:yI w w'
 old:∀k,k<w.heap.size->¬ Z k->w'.heap[k]?=w.heap[k]?
theorem zX.refl(Z:Nat->Prop)(w:World):zX Z w w:=⟨Below.refl _ _,yI.refl _,fun _ _ _=>rfl⟩
theorem zX.of{w w':World}(Z:Nat->Prop)(h:Below w.heap.size w w'):zX Z w w':=⟨h.mono (Nat.zero_le _),lx h,fun k hk _=>h.block k hk⟩
theorem zX.trans{Z:Nat->Prop}{a b c:World}(h:zX Z a b)(k:zX Z b c):zX Z a c:=
 ⟨h.bel.trans k.bel,h.lext.trans k.lext,fun i hi hn=>(k.old i (Nat.lt_of_lt_of_le hi h.bel.size) hn).trans (h.old i hi hn)⟩
theorem zX.mono{Z Z':Nat->Prop}{w w':World}(h:zX Z w w')(hs:∀k,k<w.heap.size->Z k->Z' k):zX Z' w w':=⟨h.bel,h.lext,fun k hk hn=>h.old k hk (fun hh=>hn (hs k hk hh))⟩
theorem zX.blk{Z:Nat->Prop}{w w':World}{b:Nat}{T:TypeId}{cs:Array Value}(h:zX Z w w')(hb:Blk w b T cs)(hz:¬ Z b):Blk w' b T cs:=(h.old b hb.lt hz).trans hb
theorem zJw{R C:Nat}{F:Nat->Nat->Int}{i:Nat}(hi:i<R):(zY R C F).set i (zM C (fun t=>-F i t))=zY R C (zAt F i):=by
 apply List.ext_getElem
 ·simp[zY]
 ·intro a h1 h2
  by_cases e:a=i
  ·subst e
   rw[List.getElem_set_self];simp[zY,zM,zAt]
  ·have e3:i≠a:=fun h=>e h.symm
   rw[List.getElem_set_ne e3];simp[zY,zAt,e]
theorem Wri.negRow{w w':World}{A:Value}{R C:Nat}{bs:List Nat}{F:Nat->Nat->Int}(h:Wri w A R C bs F){i b:Nat}(hi:i<R)(hb:bs[i]?=some b)(ho:qU [b] w w')(hr:qC w' b (zM C (fun t=>-F i t))):Wri w' A R C bs (zAt F i):=by
 unfold Wri;rw[<-zJw hi];exact zT.setRow h hb ho hr (zD _ _)
theorem Wri.rowAt{w:World}{A:Value}{R C:Nat}{bs:List Nat}{F:Nat->Nat->Int}(h:Wri w A R C bs F){i b:Nat}(hi:i<R)(hb:bs[i]?=some b):qC w b (zM C (F i)):=by
 obtain⟨b',e1,e2⟩:=zT.rowAt h hi;obtain rfl:b'=b:=Option.some.inj (e1.symm.trans hb);exact e2
def M4V(w:World)(v:Value)(m0 m1 m2 m3:Int):Prop:=
 ∃s0 a0 l0 c0 s1 a1 l1 c1 s2 a2 l2 c2 s3 a3 l3 c3,v= .agg #[.bool s0,.slice a0 l0 c0,.bool s1,.slice a1 l1 c1,.bool s2,.slice a2 l2 c2,.bool s3,.slice a3 l3 c3]∧
  zH w (.agg #[.bool s0,.slice a0 l0 c0]) m0/\zH w (.agg #[.bool s1,.slice a1 l1 c1]) m1/\zH w (.agg #[.bool s2,.slice a2 l2 c2]) m2/\zH w (.agg #[.bool s3,.slice a3 l3 c3]) m3
theorem M4V.ext{w w':World}{v:Value}{m0 m1 m2 m3:Int}(h:M4V w v m0 m1 m2 m3)(x:yI w w'):M4V w' v m0 m1 m2 m3:=by
 obtain⟨s0,a0,l0,c0,s1,a1,l1,c1,s2,a2,l2,c2,s3,a3,l3,c3,e,h0,h1,h2,h3⟩:=h;exact⟨s0,a0,l0,c0,s1,a1,l1,c1,s2,a2,l2,c2,s3,a3,l3,c3,e,h0.ext x,h1.ext x,h2.ext x,h3.ext x⟩
theorem Blk.eight{w:World}{g:Nat}{t:TypeId}{c0 c1 c2 c3 c4 c5 c6 c7:Value}(h:Blk w g t #[c0,c1,c2,c3,c4,c5,c6,c7]):
  w.cell? ⟨g,0,none⟩=some c0/\w.cell? ⟨g,1,none⟩=some c1/\w.cell? ⟨g,2,none⟩=some c2/\w.cell? ⟨g,3,none⟩=some c3/\w.cell? ⟨g,4,none⟩=some c4/\w.cell? ⟨g,5,none⟩=some c5/\w.cell? ⟨g,6,none⟩=some c6/\w.cell? ⟨g,7,none⟩=some c7:=
 ⟨h.cell 0,h.cell 1,h.cell 2,h.cell 3,h.cell 4,h.cell 5,h.cell 6,h.cell 7⟩
def zNz(n:Nat)(f g:Nat->Int)(m0 m1 m2 m3:Int):Prop:=∀t,t<n->Sm (f t)/\Sm (g t)/\Sm (m0*f t)/\Sm (m1*g t)/\Sm (m2*f t)/\Sm (m3*g t)
theorem Blk.put_at{w W:World}{b i j:Nat}{u v:Value}(hW:Hid (W=(w.setCell ⟨b,i,none⟩ u).setCell ⟨b,j,none⟩ v)){g:Nat}{t:TypeId}{cs:Array Value}(h:Blk w g t cs)(hne:g≠b):Blk W g t cs:=by
 rw[hW.out];exact(zV _ _ _ _ _ _ _ hne).trans h
theorem qU.put_at{w W:World}{b i j:Nat}{u v:Value}(hW:Hid (W=(w.setCell ⟨b,i,none⟩ u).setCell ⟨b,j,none⟩ v)){S:List Nat}(hb:b∈S)(hx:yI w W):qU S w W:=by
 refine⟨?_,hx,fun k _ hk=>?_⟩
 ·rw[hW.out]
  exact zO (zO (Below.refl _ _) (Nat.zero_le _) _ _) (Nat.zero_le _) _ _
 ·rw[hW.out]
  exact zV _ _ _ _ _ _ _ (fun e=>hk (e ▸ hb))
theorem qC.put_at{w W:World}{b i j:Nat}{u v:Value}(hW:Hid (W=(w.setCell ⟨b,i,none⟩ u).setCell ⟨b,j,none⟩ v)){g:Nat}{r:List Int}(h:qC w g r)(hne:g≠b)(hx:yI w W):qC W g r:=
 h.old (by rw[hW.out];exact zV _ _ _ _ _ _ _ hne) hx
theorem qC.set_at{w W:World}{b:Nat}{zs:List Int}{k:Nat}{s:Bool}{a:Option Addr}{l c:Nat}(hW:Hid (W=(w.setCell ⟨b,k*2,none⟩ (.bool s)).setCell ⟨b,k*2+1,none⟩ (.slice a l c)))(h:qC w b zs)(hk:k<zs.length){z:Int}(hv:zH w (.agg #[.bool s,.slice a l c]) z):
  qC W b (zs.set k z)/\yI w W:=by
 rw[hW.out];exact h.set hk hv
theorem zEJ{n:Nat}{F f:Nat->Int}{j:Nat}{z:Int}(hz:z=F j):(zM n (qA F f j)).set j z=zM n (qA F f (j+1)):=by
 rw[zAk];exact zQ fun t _=>by
  unfold qA;by_cases h2:t=j
  ·subst h2
   rw[if_pos rfl,if_pos oM,hz]
  ·rw[if_neg h2]
   by_cases h1:t<j
   ·rw[if_pos h1,if_pos oM]
   ·rw[if_neg h1,if_neg oM]
theorem zKN(bv bw n capv capw:Nat)(f g:Nat->Int)(mv:Value)(m0 m1 m2 m3:Int)(w:World)(hv:qC w bv (zM n f))(hw:qC w bw (zM n g))(hne:bv≠bw)(hm:M4V w mv m0 m1 m2 m3)
  (hn:n<=1000000) (hcv:n<=capv) (hcv2:capv<=9223372036854775807) (hcw:n<=capw) (hcw2:capw<=9223372036854775807)
  (hS:zNz n f g m0 m1 m2 m3) (hms:Sm m0/\Sm m1/\Sm m2/\Sm m3):
  Calls Tryz.prog 261 #[.slice (some ⟨bv,0,none⟩) n capv,.slice (some ⟨bw,0,none⟩) n capw,mv] w fun e w'=>(∃u,e= .returned u)/\qU [bv,bw] w w'∧
   qC w' bv (zM n (fun t=>m0*f t+m1*g t))/\qC w' bw (zM n (fun t=>m2*f t+m3*g t)):=by
 have HS:=xgv hS;have HK:=xgv hms;have HM:=xgv hm;obtain⟨s0,a0,l0,c0,s1,a1,l1,c1,s2,a2,l2,c2,s3,a3,l3,c3,rfl,-⟩:=id hm;clear hS hms hm;have hlv:=hv.lt;have hlw:=hw.lt;obtain⟨F,hF⟩:∃F:Nat->Int,(fun t=>m0*f t+m1*g t)=F:=⟨_,rfl⟩;obtain⟨G,hG⟩:∃G:Nat->Int,(fun t=>m2*f t+m3*g t)=G:=⟨_,rfl⟩;rw[hF,hG];have HF:qE (∀t,F t=m0*f t+m1*g t):=⟨fun t=>by rw[<-hF]⟩;have HG:qE (∀t,G t=m2*f t+m3*g t):=⟨fun t=>by rw[<-hG]⟩;clear hF hG;go_enter Tryz.func261,Tryz.ntmps261;go_upto_region 1 with(fail)
 refine zB ?_;intro W0 hW0;obtain⟨hB0,bx,hs0⟩:=zK hW0;have hv0:=hv.below hB0;have hw0:=hw.below hB0;have hm0:=HM.out.ext (lx hB0);have hst:∀(a b:Nat->Int),zM n a=zM n (qA b a 0):=fun a b=>zQ fun t _=>by unfold qA;rw[if_neg oM]
 rw[hst f F]at hv0;rw[hst g G]at hw0;have hO:=qU.of [bv,bw] hB0;have HM0:=xgv hm0;clear hW0 hst hv hw hm0;go_wp2;go_loopw [11] (fun jv wr=>∃j:Nat,j<=n/\jv= .int .i64 j/\qU [bv,bw] w wr/\Blk wr w.heap.size 301 #[.bool s0,.slice a0 l0 c0,.bool s1,.slice a1 l1 c1,.bool s2,.slice a2 l2 c2,.bool s3,.slice a3 l3 c3]/\qE (M4V wr (.agg #[.bool s0,.slice a0 l0 c0,.bool s1,.slice a1 l1 c1,.bool s2,.slice a2 l2 c2,.bool s3,.slice a3 l3 c3]) m0 m1 m2 m3)/\qC wr bw (zM n (qA G g j))/\qC wr bv (zM n (qA F f j))) (fun jv _=>n-(intOf jv).toNat)
 case atStart=>exact⟨0,by omega,rfl,hO,bx,HM0,hw0,hv0⟩
 case round=>
  obtain⟨j,hj,rfl,hO,bx,HMr,hw,hv⟩:=hrel;by_cases hlt:j<n
  ·obtain⟨xs,xa,xl,xc,p1,p2,-,-,hx⟩:=hv.cell (zP hlt)
   obtain⟨ys,ya,yl,yc,q1,q2,-,-,hy⟩:=hw.cell (zP hlt);have hxf:qA F f j j=f j:=by unfold qA;rw[if_neg oM]
   have hyf:qA G g j j=g j:=by unfold qA;rw[if_neg oM]
   rw[hxf]at hx;rw[hyf]at hy;have hlw':=hw.lt;have hlv':=hv.lt;have hlb:=bx.lt;have hOsz:=hO.bel.size;go_upto_region 5 with(fail)
   refine zB ?_;intro W6 hW6;obtain⟨hB6,T7,T8,hs6⟩:=qH hW6;obtain⟨d1,d2,d3,d4⟩:=T7.two;obtain⟨e1,e2,e3,e4⟩:=T8.two;have hO:=hO.trans (qU.of [bv,bw] hB6);have bx:=bx.below hB6;have HMr:=xgv (HMr.out.ext (lx hB6));have hw:=hw.below hB6;have hv:=hv.below hB6;have hx:=hx.ext (lx hB6);have hy:=hy.ext (lx hB6);clear p1 p2 q1 q2 hW6;obtain⟨k0,k1,k2,k3,k4,k5,k6,k7⟩:=bx.eight;have lv:=hv.lt;have lb:=bx.lt;have l7:=T7.lt;have l8:=T8.lt;have HSJ:=xgv (HS.out j hlt);obtain⟨s0',a0',l0',c0',s1',a1',l1',c1',s2',a2',l2',c2',s3',a3',l3',c3',hee,i0,i1,i2,i3⟩:=HMr.out;injection hee with hee
   simp only[Array.mk.injEq,List.cons.injEq,Value.bool.injEq,Value.slice.injEq]at hee;obtain⟨rfl,⟨rfl,rfl,rfl⟩,rfl,⟨rfl,rfl,rfl⟩,rfl,⟨rfl,rfl,rfl⟩,rfl,⟨rfl,rfl,rfl⟩,-⟩:=hee;refine zC 14 rfl (RI W6 (W6.heap.size) _ 35
     [VSl 0 20 bv n capv,VN 1 21 j,VP 2 22 w.heap.size 0,VP 3 23 w.heap.size 0,E 4 24 (.agg #[.bool s0,.slice a0 l0 c0]),E 5 25 (.agg #[.bool xs,.slice xa xl xc]),EI 6 26 (m0*f j),VP 7 27 w.heap.size 0,VP 8 28 w.heap.size 2,E 9 29 (.agg #[.bool s1,.slice a1 l1 c1]),E 10 30 (.agg #[.bool ys,.slice ya yl yc]),EI 11 31 (m1*g j),EI 12 32 (m0*f j+m1*g j),VP 13 33 bv (j*2)] [] []) kR RI.start (RI.fin kR ?fin1) ?steps1
   case steps1=>
    (repeat' constructor)<;>(intro L T wS hL hd hcl hI K hK;try refine zA rfl ?_)
    ·exact xgs (hI.k 0 rfl kR)
    ·exact xgs (hI.k 6 rfl kR)
    ·exact xgs (hI.k 5 rfl kR)
    ·exact xgs (hI.e mm2 (hd 2))
    ·have zt3:=hI.e mm3 (hd 3)
     have cc0:=hI.cell k0 oM nom;have cc1:=hI.cell k1 oM nom;exact xgu
    ·have zt:=hI.k 7 rfl kR
     have cc0:=hI.cell d1 oM nom;have cc1:=hI.cell d2 oM nom;exact xgu
    ·have zt4:=hI.e mm4 (hd 4)
     have zt5:=hI.e mm5 (hd 5);go_simp;refine(jO _ _ m0 (f j) _ (i0.ext hI.lext).weak (hx.ext hI.lext).weak HK.out.1 HSJ.out.1).mono ?_;exact xgo
    ·exact xgs (hI.k 5 rfl kR)
    ·exact xgs (hI.e mm7 (hd 7))
    ·have zt8:=hI.e mm8 (hd 8)
     have cc0:=hI.cell k2 oM nom;have cc1:=hI.cell k3 oM nom;exact xgu
    ·have zt:=hI.k 8 rfl kR
     have cc0:=hI.cell e1 oM nom;have cc1:=hI.cell e2 oM nom;exact xgu
    ·have zt9:=hI.e mm9 (hd 9)
     have zt10:=hI.e zAB (hd 10);go_simp;refine(jO _ _ m1 (g j) _ (i1.ext hI.lext).weak (hy.ext hI.lext).weak HK.out.2.1 HSJ.out.2.1).mono ?_;exact xgo
    ·obtain⟨v6,zt6,h6⟩:=hI.vi mm6 (hd 6)
     obtain⟨v11,zt11,h11⟩:=hI.vi zAG (hd 11);go_simp;refine(zBw _ _ (m0*f j) (m1*g j) _ h6.weak h11.weak HSJ.out.2.2.1 HSJ.out.2.2.2.1).mono ?_;exact xgo
    ·exact xgt (hI.e mm0 (hd 0)) (hI.e mm1 (hd 1))
   intro w9 hlw9 hbw9 holdw9 T hT;simp only[Fin,E,EI,VP,VSl,VN,xgg,xgh,xgi,xgj]at hT;obtain⟨va6,ha6,va11,ha11,va12,ha12,rfl⟩:=hT;simp only[xgl,xgk];obtain⟨pn,pa,pl,pc,px,rfl,hpx⟩:=id ha12;have HPX:=xgw hpx;clear hpx k0 k1 k2 k3 k4 k5 k6 k7 d1 d2 d3 d4 e1 e2 e3 e4;have hv9:=hv.below hbw9;obtain⟨zs,za,zl,zc,z1,z2,z3,z4,-⟩:=hv9.cell (zP hlt);have hl9:=hv9.lt;go_upto_region 6 with(fail)
   refine zB ?_;intro W10 hW10;obtain⟨hv10,hx10⟩:=hv9.set_at (k:=j) hW10 (by rw[zD];exact hlt) ha12;rw[zEJ (HF.out j).symm]at hv10;have hO:=(hO.trans (qU.of [bv,bw] hbw9)).trans (qU.put_at hW10 sI hx10);have bx:=(bx.below hbw9).put_at hW10 oM;have T7:=(T7.below hbw9).put_at hW10 oM;have T8:=(T8.below hbw9).put_at hW10 oM;have hw:=(hw.below hbw9).put_at hW10 (Ne.symm hne) hx10;have hv:=hv10;have hx:=(hx.ext (lx hbw9)).ext hx10;have hy:=(hy.ext (lx hbw9)).ext hx10;have i0:=(i0.ext (lx hbw9)).ext hx10;have i1:=(i1.ext (lx hbw9)).ext hx10;have i2:=(i2.ext (lx hbw9)).ext hx10;have i3:=(i3.ext (lx hbw9)).ext hx10;clear z1 z2 z3 z4 hW10;obtain⟨k0,k1,k2,k3,k4,k5,k6,k7⟩:=bx.eight;obtain⟨d1,d2,d3,d4⟩:=T7.two;obtain⟨e1,e2,e3,e4⟩:=T8.two;have lw:=hw.lt;have lb:=bx.lt;have l7:=T7.lt;have l8:=T8.lt;refine zC 14 rfl (RI W10 (W10.heap.size) _ 35
     [VSl 0 34 bw n capw,VN 1 35 j,VP 2 36 w.heap.size 4,VP 3 37 w.heap.size 4,E 4 38 (.agg #[.bool s2,.slice a2 l2 c2]),E 5 39 (.agg #[.bool xs,.slice xa xl xc]),EI 6 40 (m2*f j),VP 7 41 w.heap.size 4,VP 8 42 w.heap.size 6,E 9 43 (.agg #[.bool s3,.slice a3 l3 c3]),E 10 44 (.agg #[.bool ys,.slice ya yl yc]),EI 11 45 (m3*g j),EI 12 46 (m2*f j+m3*g j),VP 13 47 bw (j*2)] [] []) kR RI.start (RI.fin kR ?fin2) ?steps2
   case steps2=>
    (repeat' constructor)<;>(intro L T wS hL hd hcl hI K hK;try refine zA rfl ?_)
    ·exact xgs (hI.k 1 rfl kR)
    ·exact xgs (hI.k 6 rfl kR)
    ·exact xgs (hI.k 5 rfl kR)
    ·exact xgs (hI.e mm2 (hd 2))
    ·have zt3:=hI.e mm3 (hd 3)
     have cc0:=hI.cell k4 oM nom;have cc1:=hI.cell k5 oM nom;exact xgu
    ·have zt:=hI.k 7 rfl kR
     have cc0:=hI.cell d1 oM nom;have cc1:=hI.cell d2 oM nom;exact xgu
    ·have zt4:=hI.e mm4 (hd 4)
     have zt5:=hI.e mm5 (hd 5);go_simp;refine(jO _ _ m2 (f j) _ (i2.ext hI.lext).weak (hx.ext hI.lext).weak HK.out.2.2.1 HSJ.out.1).mono ?_;exact xgo
    ·exact xgs (hI.k 5 rfl kR)
    ·exact xgs (hI.e mm7 (hd 7))
    ·have zt8:=hI.e mm8 (hd 8)
     have cc0:=hI.cell k6 oM nom;have cc1:=hI.cell k7 oM nom;exact xgu
    ·have zt:=hI.k 8 rfl kR
     have cc0:=hI.cell e1 oM nom;have cc1:=hI.cell e2 oM nom;exact xgu
    ·have zt9:=hI.e mm9 (hd 9)
     have zt10:=hI.e zAB (hd 10);go_simp;refine(jO _ _ m3 (g j) _ (i3.ext hI.lext).weak (hy.ext hI.lext).weak HK.out.2.2.2 HSJ.out.2.1).mono ?_;exact xgo
    ·obtain⟨v6,zt6,h6⟩:=hI.vi mm6 (hd 6)
     obtain⟨v11,zt11,h11⟩:=hI.vi zAG (hd 11);go_simp;refine(zBw _ _ (m2*f j) (m3*g j) _ h6.weak h11.weak HSJ.out.2.2.2.2.1 HSJ.out.2.2.2.2.2).mono ?_;exact xgo
    ·exact xgt (hI.e mm0 (hd 0)) (hI.e mm1 (hd 1))
   intro w11 hlw11 hbw11 holdw11 T hT;simp only[Fin,E,EI,VP,VSl,VN,xgg,xgh,xgi,xgj]at hT;obtain⟨vb6,hb6,vb11,hb11,vb12,hb12,rfl⟩:=hT;simp only[xgl,xgk];obtain⟨pn,pa,pl,pc,px,rfl,hpx⟩:=id hb12;have HPX:=xgw hpx;clear hpx k0 k1 k2 k3 k4 k5 k6 k7 d1 d2 d3 d4 e1 e2 e3 e4;have hw9:=hw.below hbw11;obtain⟨zs,za,zl,zc,z1,z2,z3,z4,-⟩:=hw9.cell (zP hlt);have hl9:=hw9.lt;go_upto_region 7 with(fail)
   refine zB ?_;intro W12 hW12;obtain⟨hw12,hx12⟩:=hw9.set_at (k:=j) hW12 (by rw[zD];exact hlt) hb12;rw[zEJ (HG.out j).symm]at hw12;have hO:=(hO.trans (qU.of [bv,bw] hbw11)).trans (qU.put_at hW12 sI hx12);have bx:=(bx.below hbw11).put_at hW12 oM;have hv:=(hv.below hbw11).put_at hW12 hne hx12;have i0:=(i0.ext (lx hbw11)).ext hx12;have i1:=(i1.ext (lx hbw11)).ext hx12;have i2:=(i2.ext (lx hbw11)).ext hx12;have i3:=(i3.ext (lx hbw11)).ext hx12;clear z1 z2 z3 z4 hW12;go_wp2;go_roundw
   case rel=>exact⟨j+1,by omega,by simp,hO,bx,⟨⟨s0,a0,l0,c0,s1,a1,l1,c1,s2,a2,l2,c2,s3,a3,l3,c3,rfl,i0,i1,i2,i3⟩⟩,hw12,hv⟩
   case measure=>simp[intOf];omega
  ·obtain rfl:j=n:=by omega
   have hq1:zM j (qA F f j)=zM j F:=zQ fun t ht=>by unfold qA;rw[if_pos ht]
   have hq2:zM j (qA G g j)=zM j G:=zQ fun t ht=>by unfold qA;rw[if_pos ht]
   rw[hq1]at hv;rw[hq2]at hw;go_wp2;exact bodyPost_end (results_none rfl _ _ _) rfl ⟨⟨_,rfl⟩,hO,hv,hw⟩
structure zQp(Z:Nat->Prop)(w:World)(As At Ai:Value)(n Cs Ct:Nat)(x:Bst):Prop where
 ex:∃bss bst bsi,zD4 w As At Ai n Cs Ct bss bst bsi x.s x.t x.i/\(∀b,b∈bss∨b∈bst∨b∈bsi->Z b)
 own:∀g,As.ownBlock=some g∨At.ownBlock=some g∨Ai.ownBlock=some g->Z g
structure BSm(B:Nat):Prop where
 sm:∀z:Int,z.natAbs<B->Sm z
theorem zH2(k:Nat)(zs:List Int):(zBn k zs=-1/\∀z∈zs,z=0)∨∃j,zBn k zs=((k+j:Nat):Int)/\j<zs.length/\zs.getD j 0≠0/\∀t,t<j->zs.getD t 0=0:=by
 induction zs generalizing k with
 |nil=>exact .inl ⟨rfl,fun z hz=>by cases hz⟩
 | cons z zs ih=>
  unfold zBn;by_cases hz:z=0
  ·rw[if_neg (by simp[hz])]
   rcases ih (k+1)with⟨h1,h2⟩|⟨j,h1,h2,h3,h4⟩
   ·refine .inl ⟨h1,fun y hy=>?_⟩
    rcases List.mem_cons.1 hy with rfl|hy
    ·exact hz
    ·exact h2 y hy
   ·refine .inr ⟨j+1,by rw[h1];congr 1;omega,by simp;omega,by simpa using h3,fun t ht=>?_⟩
    cases t with
    |zero=>simpa using hz
    |succ t=>simpa using h4 t oM
  ·rw[if_pos hz]
   exact .inr ⟨0,by simp,by simp,by simpa using hz,fun t ht=>by omega⟩
theorem zA5{n:Nat}{f:Nat->Int}{j:Nat}(h:j<n):(zM n f).getD j 0=f j:=by rw[xgb,zP h];rfl
theorem zAn(C:Nat)(F:Nat->Nat->Int)(i:Nat):(lead C F i=-1/\∀t,t<C->F i t=0)∨∃j:Nat,lead C F i=(j:Int)/\j<C/\F i j≠0/\∀t,t<j->F i t=0:=by
 unfold lead;rcases zH2 0 (zM C (F i))with⟨h1,h2⟩|⟨j,h1,h2,h3,h4⟩
 ·exact .inl ⟨h1,fun t ht=>h2 _ (xgd (zP ht))⟩
 ·rw[zD]at h2
  rw[zA5 h2]at h3;refine .inr ⟨j,by rw[h1];simp,h2,h3,fun t ht=>?_⟩;have:=h4 t ht;rwa[zA5 oM]at this
noncomputable def leastOf (P:Nat->Prop):Nat:=open Classical in if h:∃f,P f/\∀g,P g->f<=g then h.choose else 0
inductive Op where
 |add (i j:Nat) (k:Int)
 |swap (i j:Nat)
 |neg (i:Nat)
def Op.f:Op->(Nat->Nat->Int)->(Nat->Nat->Int)
 | .add i j k,F=>zAv F i j k
 | .swap i j,F=>zFl F i j
 | .neg i,F=>zAt F i
def Op.d:Op->(Nat->Nat->Int)->(Nat->Nat->Int)
 | .add i j k,F=>zAv F j i (-k)
 | .swap i j,F=>zFl F i j
 | .neg i,F=>zAt F i
def Op.b(o:Op)(x:Bst):Bst:=⟨o.f x.s,o.f x.t,o.d x.i⟩
def Op.g:Op->Nat
 | .add _ _ k=>1+k.natAbs
 |_=>1
def Op.ok(n:Nat):Op->Prop
 | .add i j _=>i<n/\j<n/\i≠j
 | .swap i j=>i<n/\j<n
 | .neg i=>i<n
def zBZ:List Op->(Nat->Nat->Int)->(Nat->Nat->Int)
 | [],F=>F
 |o::l,F=>zBZ l (o.f F)
def zLG:List Op->(Nat->Nat->Int)->(Nat->Nat->Int)
 | [],F=>F
 |o::l,F=>zLG l (o.d F)
def zBM:List Op->Bst->Bst
 | [],x=>x
 |o::l,x=>zBM l (o.b x)
def gro:List Op->Nat
 | []=>1
 |o::l=>o.g*gro l
def yB(n:Nat)(l:List Op):Prop:=∀o∈l,o.ok n
theorem zLF(l:List Op):∀x:Bst,zBM l x=⟨zBZ l x.s,zBZ l x.t,zLG l x.i⟩:=by
 induction l with
 |nil=>intro x;rfl
 |cons o l ih=>intro x;exact ih _
theorem zEC(l m:List Op):∀x,zBM (l++m) x=zBM m (zBM l x):=by
 induction l with
 |nil=>intro F;rfl
 |cons o l ih=>intro F;exact ih _
theorem yB.app{n:Nat}{l m:List Op}(h:yB n l)(k:yB n m):yB n (l++m):=fun o ho=>(List.mem_append.1 ho).elim (h o) (k o)
theorem yB.cons{n:Nat}{o:Op}{m:List Op}(h:o.ok n)(k:yB n m):yB n (o::m):=fun p hp=>by
 rcases List.mem_cons.1 hp with rfl|hp
 ·exact h
 ·exact k p hp
theorem yB.nil{n:Nat}:yB n []:=fun o ho=>by cases ho
def leM(M n C:Nat)(F:Nat->Nat->Int):Prop:=∀a,a<n->∀b,b<C->(F a b).natAbs<=M
theorem leM.mono{M M' n C:Nat}{F:Nat->Nat->Int}(h:leM M n C F)(hM:M<=M'):leM M' n C F:=fun a ha b hb=>Nat.le_trans (h a ha b hb) hM
theorem leM.ok{M B n C:Nat}{F:Nat->Nat->Int}(h:leM M n C F)(hM:M<B):okF B n C F:=fun a ha b hb=>Nat.lt_of_le_of_lt (h a ha b hb) hM
theorem zK0{M n C i j:Nat}{k:Int}{F:Nat->Nat->Int}(h:leM M n C F)(hi:i<n)(hj:j<n):leM (M*(1+k.natAbs)) n C (zAv F i j k):=by
 intro a ha b hb;unfold zAv;split
 ·have h1:=h i hi b hb
  have h2:=h j hj b hb;have h3:(k*F j b).natAbs<=k.natAbs*M:=by rw[Int.natAbs_mul];exact Nat.mul_le_mul_left _ h2
  have h4:(F i b+k*F j b).natAbs<=(F i b).natAbs+(k*F j b).natAbs:=by omega
  rw[Nat.mul_add,Nat.mul_one,Nat.mul_comm M];omega
 ·exact Nat.le_trans (h a ha b hb) (Nat.le_mul_of_pos_right _ oM)
theorem zJG{i j a n:Nat}(hi:i<n)(hj:j<n)(ha:a<n):swp i j a<n:=by unfold swp;split;exact hj;split;exact hi;exact ha
theorem zK1{M n C:Nat}{o:Op}{F:Nat->Nat->Int}(h:leM M n C F)(ho:o.ok n):leM (M*o.g) n C (o.f F):=by
 cases o with
 |add i j k=>exact zK0 h ho.1 ho.2.1
 |swap i j=>
  intro a ha b hb;simp only[Op.g,Nat.mul_one];exact h _ (zJG ho.1 ho.2 ha) b hb
 |neg i=>
  intro a ha b hb;simp only[Op.g,Nat.mul_one,Op.f,zAt];split
  ·rw[Int.natAbs_neg];exact h a ha b hb
  ·exact h a ha b hb
theorem zPf{M n C:Nat}{o:Op}{F:Nat->Nat->Int}(h:leM M n C F)(ho:o.ok n):leM (M*o.g) n C (o.d F):=by
 cases o with
 |add i j k=>
  have:=zK0 (k:=-k) h ho.2.1 ho.1;rwa[Int.natAbs_neg]at this
 |swap i j=>exact zK1 (o:=.swap i j) h ho
 |neg i=>exact zK1 (o:=.neg i) h ho
theorem zIl{n C:Nat}{l:List Op}(hl:yB n l):∀{M:Nat} {F:Nat->Nat->Int},leM M n C F->leM (M*gro l) n C (zBZ l F):=by
 induction l with
 |nil=>intro M F h;simpa[gro,zBZ]using h
 |cons o l ih=>
  intro M F h;have:=ih (fun p hp=>hl p (List.mem_cons_of_mem _ hp)) (zK1 h (hl o (List.mem_cons_self ..)));rwa[Nat.mul_assoc]at this
theorem zMs{n C:Nat}{l:List Op}(hl:yB n l):∀{M:Nat} {F:Nat->Nat->Int},leM M n C F->leM (M*gro l) n C (zLG l F):=by
 induction l with
 |nil=>intro M F h;simpa[gro,zLG]using h
 |cons o l ih=>
  intro M F h;have:=ih (fun p hp=>hl p (List.mem_cons_of_mem _ hp)) (zPf h (hl o (List.mem_cons_self ..)));rwa[Nat.mul_assoc]at this
def leB(M n Cs Ct:Nat)(x:Bst):Prop:=leM M n Cs x.s/\leM M n Ct x.t/\leM M n Ct x.i
theorem zOW{M n Cs Ct:Nat}{o:Op}{x:Bst}(h:leB M n Cs Ct x)(ho:o.ok n):leB (M*o.g) n Cs Ct (o.b x):=⟨zK1 h.1 ho,zK1 h.2.1 ho,zPf h.2.2 ho⟩
theorem zOX{n Cs Ct:Nat}{l:List Op}(hl:yB n l){M:Nat}{x:Bst}(h:leB M n Cs Ct x):leB (M*gro l) n Cs Ct (zBM l x):=by
 rw[zLF];exact⟨zIl hl h.1,zIl hl h.2.1,zMs hl h.2.2⟩
theorem zIs{B M n Cs Ct i j:Nat}{k:Int}{x:Bst}(h:leB M n Cs Ct x)(hi:i<n)(hj:j<n)(hij:i≠j)(hM:1<=M)(hB:M*(1+k.natAbs)<B):zDe B n Cs Ct x i j k:=by
 have e:M*(1+k.natAbs)=M+M*k.natAbs:=by rw[Nat.mul_add,Nat.mul_one]
 have hk:k.natAbs<=M*k.natAbs:=Nat.le_mul_of_pos_left _ hM;have hp:∀z:Int,z.natAbs<=M->(k*z).natAbs<B:=fun z hz=>by
  have:k.natAbs*z.natAbs<=k.natAbs*M:=Nat.mul_le_mul_left _ hz;rw[Int.natAbs_mul];rw[Nat.mul_comm k.natAbs M]at this;omega
 have h2:=zOW (o:=.add i j k) h ⟨hi,hj,hij⟩;exact⟨by omega,fun t ht=>hp _ (h.1 j hj t ht),fun t ht=>⟨hp _ (h.2.1 j hj t ht),hp _ (h.2.2 i hi t ht)⟩,h2.1.ok hB,h2.2.1.ok hB,h2.2.2.ok hB⟩
theorem zQI{n R b:Nat}{o:Op}{P F G:Nat->Nat->Int}(ho:o.ok n)(h:∀a,a<n->F a b=qF R fun t=>P a t*G t b):∀a,a<n->o.f F a b=qF R fun t=>o.f P a t*G t b:=by
 intro a ha;cases o with
 | add i j k=>
  show(if a=i then F i b+k*F j b else F a b)=qF R fun t=>(if a=i then P i t+k*P j t else P a t)*G t b
  by_cases e:a=i
  ·rw[if_pos e,h i ho.1,h j ho.2.1,<-yK,<-zAe]
   refine zS fun t ht=>?_
   rw[if_pos e,Int.add_mul,Int.mul_assoc]
  ·rw[if_neg e,h a ha]
   refine zS fun t ht=>?_
   rw[if_neg e]
 |swap i j=>exact h _ (zJG ho.1 ho.2 ha)
 | neg i=>
  show(if a=i then-(F a b)else F a b)=qF R fun t=>(if a=i then-(P a t)else P a t)*G t b
  by_cases e:a=i
  ·rw[if_pos e,h a ha,<-Int.neg_one_mul,<-yK]
   refine zS fun t ht=>?_
   rw[if_pos e,Int.neg_mul,Int.neg_mul,Int.one_mul]
  ·rw[if_neg e,h a ha]
   refine zS fun t ht=>?_
   rw[if_neg e]
theorem zOp{n R b:Nat}{l:List Op}(hl:yB n l):∀{P F G:Nat->Nat->Int},(∀a,a<n->F a b=qF R fun t=>P a t*G t b)->∀a,a<n->zBZ l F a b=qF R fun t=>zBZ l P a t*G t b:=by
 induction l with
 |nil=>intro P F G h;exact h
 |cons o l ih=>
  intro P F G h;exact ih (fun p hp=>hl p (List.mem_cons_of_mem _ hp)) (zQI (hl o (List.mem_cons_self ..)) h)
theorem zOS{n a:Nat}(ha:a<n)(G:Nat->Int):G a=qF n fun t=>idf a t*G t:=by
 rw[zAI (c:=a) ha]
 ·unfold idf;rw[if_pos rfl,Int.one_mul]
 ·intro i hi hne
  unfold idf;rw[if_neg (fun e=>hne e.symm),Int.zero_mul]
theorem zLH{n:Nat}{l:List Op}(hl:yB n l)(F:Nat->Nat->Int):∀a,a<n->∀b,zBZ l F a b=qF n fun t=>zBZ l idf a t*F t b:=
 fun a ha b=>zOp hl (fun a ha=>zOS ha fun t=>F t b) a ha
def dot(C:Nat)(P Q:Nat->Nat->Int)(a b:Nat):Int:=qF C fun t=>P a t*Q b t
theorem zPi{n C:Nat}{o:Op}{P Q:Nat->Nat->Int}(ho:o.ok n)(h:∀a,a<n->∀b,b<n->dot C P Q a b=idf a b):∀a,a<n->∀b,b<n->dot C (o.f P) (o.d Q) a b=idf a b:=by
 intro a ha b hb;cases o with
 | add i j k=>
  obtain⟨hi,hj,hij⟩:=ho;have e:dot C (zAv P i j k) (zAv Q j i (-k)) a b=dot C P Q a b+(if a=i then k*dot C P Q j b else 0)+(if b=j then(-k)*dot C P Q a i+(if a=i then(-k)*(k*dot C P Q j i)else 0)else 0):=by
   unfold dot zAv;by_cases e1:a=i
   ·subst e1
    by_cases e2:b=j
    ·subst e2
     simp only[if_true];rw[<-yK,<-yK,<-yK,<-yK,<-zAe,<-zAe,<-zAe];refine zS fun t ht=>?_
     generalize P a t=p;generalize P b t=q;generalize Q a t=r;generalize Q b t=s;grind
    ·simp only[if_true,if_neg e2]
     rw[<-yK,<-zAe,Int.add_zero];refine zS fun t ht=>?_
     rw[Int.add_mul,Int.mul_assoc]
   ·by_cases e2:b=j
    ·subst e2
     simp only[if_true,if_neg e1];rw[<-yK,Int.add_zero,Int.add_zero,<-zAe];refine zS fun t ht=>?_
     rw[Int.mul_add,Int.mul_left_comm]
    ·simp only[if_neg e1,if_neg e2]
     rw[Int.add_zero,Int.add_zero]
  show dot C (zAv P i j k) (zAv Q j i (-k)) a b=_;rw[e,h a ha b hb,h j hj b hb,h a ha i hi,h j hj i hi];unfold idf;have hji:¬ j=i:=fun h=>hij h.symm
  by_cases e1:a=i
  ·by_cases e2:b=j
   ·subst e1
    subst e2;simp[hij,hji];omega
   ·have e3:¬ j=b:=fun h=>e2 h.symm
    subst e1;simp[e2,e3]
  ·by_cases e2:b=j
   ·subst e2
    simp[e1]
   ·simp[e1,e2]
 |swap i j=>
  show dot C P Q (swp i j a) (swp i j b)=_;rw[h _ (zJG ho.1 ho.2 ha) _ (zJG ho.1 ho.2 hb)];unfold idf swp;split<;>split<;>(try split)<;>(try split)<;>(try split)<;>(try split)<;>first|rfl|omega
 | neg i=>
  have e:dot C (zAt P i) (zAt Q i) a b=(if a=i then-1 else 1)*((if b=i then-1 else 1)*dot C P Q a b):=by
   unfold dot zAt;rw[<-yK,<-yK];refine zS fun t ht=>?_
   generalize P a t=p;generalize Q b t=q;split<;>split<;>grind
  show dot C (zAt P i) (zAt Q i) a b=_;rw[e,h a ha b hb];unfold idf;split<;>split<;>split<;>omega
theorem zOo{n C:Nat}{l:List Op}(hl:yB n l):∀{P Q:Nat->Nat->Int},(∀a,a<n->∀b,b<n->dot C P Q a b=idf a b)->∀a,a<n->∀b,b<n->dot C (zBZ l P) (zLG l Q) a b=idf a b:=by
 induction l with
 |nil=>intro P Q h;exact h
 |cons o l ih=>
  intro P Q h;exact ih (fun p hp=>hl p (List.mem_cons_of_mem _ hp)) (zPi (hl o (List.mem_cons_self ..)) h)
def cod(n:Nat)(Q P:Nat->Nat->Int)(a b:Nat):Int:=qF n fun t=>Q t a*P t b
theorem zHT{n i j:Nat}{f g:Nat->Int}{d:Int}(hi:i<n)(hj:j<n)(hij:i≠j)(h:∀t,t<n->t≠i->t≠j->f t=g t)(h1:f i=g i+d)(h2:f j=g j-d):qF n f=qF n g:=by
 have e:qF n (fun t=>f t-g t)=0:=by
  have:∀m,m<=n->qF m (fun t=>f t-g t)=(if i<m then d else 0)-(if j<m then d else 0):=by
   intro m;induction m with
   |zero=>intro _;rfl
   | succ m ih=>
    intro hm;show qF m _+(f m-g m)=_;rw[ih oM];by_cases e1:m=i
    ·subst e1
     rw[h1];split<;>split<;>split<;>(try split)<;>omega
    ·by_cases e2:m=j
     ·subst e2
      rw[h2];split<;>split<;>split<;>(try split)<;>omega
     ·rw[h m oM e1 e2]
      split<;>split<;>split<;>(try split)<;>omega
  rw[this n (xgf _),if_pos hi,if_pos hj];omega
 have e2:qF n f=qF n g+qF n (fun t=>f t-g t):=by
  rw[<-zAe];exact zS fun t ht=>by omega
 omega
theorem zO4{n i j:Nat}(hi:i<n)(hj:j<n)(f:Nat->Int):qF n (fun t=>f (swp i j t))=qF n f:=by
 by_cases hij:i=j
 ·subst hij
  refine zS fun t ht=>?_
  unfold swp;split<;>(try split)<;>simp_all
 ·refine zHT (d:=f j-f i) hi hj hij (fun t ht h1 h2=>?_) ?_ ?_
  ·unfold swp;rw[if_neg h1,if_neg h2]
  ·unfold swp;rw[if_pos rfl];omega
  ·unfold swp;rw[if_neg oM,if_pos rfl];omega
theorem zPh{n:Nat}{o:Op}{P Q:Nat->Nat->Int}(ho:o.ok n)(a b:Nat):cod n (o.d Q) (o.f P) a b=cod n Q P a b:=by
 cases o with
 | add i j k=>
  obtain⟨hi,hj,hij⟩:=ho;refine zHT (i:=i) (j:=j) (d:=k*(Q i a*P j b)) hi hj hij (fun t ht h1 h2=>?_) ?_ ?_
  ·simp only[Op.d,Op.f,zAv,if_neg h1,if_neg h2]
  ·simp only[Op.d,Op.f,zAv,if_true,if_neg hij]
   rw[Int.mul_add,Int.mul_left_comm]
  ·simp only[Op.d,Op.f,zAv,if_true,if_neg (fun h=>hij (Eq.symm h))]
   rw[Int.add_mul,Int.mul_assoc,Int.neg_mul];rfl
 |swap i j=>exact zO4 ho.1 ho.2 fun t=>Q t a*P t b
 |neg i=>
  refine zS fun t ht=>?_
  simp only[Op.d,Op.f,zAt];split
  ·rw[Int.neg_mul_neg]
  ·rfl
theorem zOn{n:Nat}{l:List Op}(hl:yB n l):∀{P Q:Nat->Nat->Int} (a b:Nat),cod n (zLG l Q) (zBZ l P) a b=cod n Q P a b:=by
 induction l with
 |nil=>intro P Q a b;rfl
 |cons o l ih=>
  intro P Q a b;show cod n (zLG l (o.d Q)) (zBZ l (o.f P)) a b=_;rw[ih (fun p hp=>hl p (List.mem_cons_of_mem _ hp)),zPh (hl o (List.mem_cons_self ..))]
theorem zCJ{n:Nat}{l:List Op}(hl:yB n l)(F:Nat->Nat->Int):∀a,a<n->∀b,F a b=qF n fun t=>zLG l idf t a*zBZ l F t b:=by
 intro a ha b;have h1:=zOn (P:=F) (Q:=idf) hl a b;unfold cod at h1;rw[h1,zAI (c:=a) ha]
 ·unfold idf;rw[if_pos rfl,Int.one_mul]
 ·intro t ht hne
  unfold idf;rw[if_neg hne,Int.zero_mul]
theorem zOZ{C:Nat}{F:Nat->Nat->Int}{i c:Nat}(hc:c<C)(h:F i c≠0)(hz:∀t,t<c->F i t=0):lead C F i=(c:Int):=by
 rcases zAn C F i with⟨-,h2⟩|⟨j,h1,h2,h3,h4⟩
 ·exact absurd (h2 c hc) h
 ·rcases Nat.lt_trichotomy j c with h5|h5|h5
  ·exact absurd (hz j h5) h3
  ·rw[h1,h5]
  ·exact absurd (h4 c h5) h
theorem zF9{C:Nat}{F:Nat->Nat->Int}{i:Nat}(hz:∀t,t<C->F i t=0):lead C F i=-1:=by
 rcases zAn C F i with⟨h1,-⟩|⟨j,h1,h2,h3,h4⟩
 ·exact h1
 ·exact absurd (hz j h2) h3
theorem zF8{C:Nat}{F:Nat->Nat->Int}{i:Nat}(h:lead C F i<0):∀t,t<C->F i t=0:=by
 rcases zAn C F i with⟨-,h1⟩|⟨j,h1,-⟩
 ·exact h1
 ·omega
structure Ech(C r:Nat)(c:Nat->Nat)(F:Nat->Nat->Int):Prop where
 lt:∀k,k<r->c k<C
 pos:∀k,k<r->0<F k (c k)
 zero:∀k,k<r->∀t,t<c k->F k t=0
 inc:∀k l,k<l->l<r->c k<c l
theorem Ech.lead{C r:Nat}{c:Nat->Nat}{F:Nat->Nat->Int}(h:Ech C r c F){k:Nat}(hk:k<r):lead C F k=(c k:Int):=zOZ (h.lt k hk) (by have:=h.pos k hk;omega) (h.zero k hk)
def zPl(k:Nat):Nat->List Op
 |0=>[]
 |m+1=>.swap (k+m+1) (k+m)::zPl k m
def zRh(k m a:Nat):Nat:=if a=k then k+m else if k<a/\a<=k+m then a-1 else a
theorem zOY{Z a b:Nat}(hZ:1<=Z)(h:a<=b):Z^a<=Z^b:=Nat.pow_le_pow_right hZ h
def zQ4(Cs m rank:Nat)(F G:Nat->Nat->Int)(b:Bool)(c':Nat->Nat):Prop:=
 Ech Cs (if b then rank+1 else rank) c' G/\(∀a,(if b then rank+1 else rank)<=a->a<=m->∀t,t<Cs->G a t=0)/\∀a,m<a->∀t,G a t=F a t
def zHe(P:Nat->Nat->Prop)(r:Nat)(c:Nat->Nat)(F:Nat->Nat->Int):Prop:=∀i j,i<j->j<r->P i j->0<=F i (c j)/\F i (c j)<F j (c j)
def zNs(rank:Nat):Nat->Nat
 |0=>0
 |i+1=>(rank-(i+1))+zNs rank i
structure Hnf(C n r:Nat)(c:Nat->Nat)(F:Nat->Nat->Int):Prop where
 le:r<=n
 ech:Ech C r c F
 red:zHe (fun _ _=>True) r c F
 zero:∀a,r<=a->a<n->∀t,t<C->F a t=0
def ecE:Nat->Nat->Nat
 |0,_=>1
 |l+1,m=>4^m*2^(m*(m+1)/2)*ecE l (m+1)
def KE:Nat:=4194304
def zGX(h:Nat->Nat->Int)(pc:Nat->Nat):Nat->Int
 |0=>1
 |k+1=>zGX h pc k*h k (pc k)
theorem zH9{C r:Nat}{h:Nat->Nat->Int}{pc:Nat->Nat}(he:Ech C r pc h):∀k,k<=r->zGX h pc k≠0
 |0,_=>fun h=>absurd (show(1:Int)=0 from h) dE
 |k+1,hk=>Int.mul_ne_zero (zH9 he k oM) (by have:=he.pos k oM;omega)
theorem Ech.ge{C r:Nat}{pc:Nat->Nat}{h:Nat->Nat->Int}(he:Ech C r pc h):∀k,k<r->k<=pc k
 |0,_=>Nat.zero_le _
 |k+1,hk=>by have h1:=he.ge k oM;have h2:=he.inc k (k+1) oM hk;omega
theorem zDb{a b:Int}{x y z:Nat}(ha:a.natAbs<=x)(hb:b.natAbs<=y)(h:x*y<=z):(a*b).natAbs<=z:=by
 rw[Int.natAbs_mul];exact Nat.le_trans (Nat.mul_le_mul ha hb) h
theorem zHU{p x y z:Int}{H X:Nat}(hp:p.natAbs<=H)(hx:x.natAbs<=X)(hy:y.natAbs<=H)(hz:z.natAbs<=X):(p*x-y*z).natAbs<=2*H*X:=by
 have h1:=zDb (z:=H*X) hp hx (xgf _);have h2:=zDb (z:=H*X) hy hz (xgf _);have h3:=Int.natAbs_sub_le (p*x) (y*z);rw[Nat.mul_assoc,Nat.two_mul];omega
theorem zDh{C r H:Nat}{h:Nat->Nat->Int}{pc:Nat->Nat}(he:Ech C r pc h)(hb:∀k,k<r->(h k (pc k)).natAbs<=H):∀k,k<=r->(zGX h pc k).natAbs<=H^k
 |0,_=>xgf _
 |k+1,hk=>zDb (zDh he hb k oM) (hb k oM) (by rw[Nat.pow_succ];exact xgf _)
theorem zFq{E:Nat->Nat->Int}{k:Nat}:bx E k k=E:=by
 funext a
 unfold bx;by_cases e:a=k
 ·rw[if_pos e,e]
 ·rw[if_neg e,if_neg e]
theorem zKe{q a b:Int}(hq:q≠0)(h:a=q*b):a/q=b:=by rw[h];exact Int.mul_ediv_cancel_left _ hq
structure zL7(C r m H c k:Nat)(pc:Nat->Nat)(L:Nat->Nat->Int)(s:BE):Prop where
 len:s.pv.length=k
 le:k<=r
 bef:∀t,t<k->pc t<c
 aft:∀t,k<=t->t<r->c<=pc t
 last:s.last=zGX L pc k
 low:∀i,k<=i->i<r->∀j,j<m->s.E i j=zGX L pc k*L i j
 bnd:∀i,i<r->∀j,j<m->(s.E i j).natAbs<=(2*H)^(k+1)
theorem zL7.step{C r m H c k:Nat}{pc:Nat->Nat}{L:Nat->Nat->Int}{s:BE}(he:Ech C r pc L)(hC:C<=m)(hH:∀i,i<r->∀j,j<m->(L i j).natAbs<=H)(hi:zL7 C r m H c k pc L s)(hc:c<C):
  (s.pv.length<r->zEw r c s<r->ExS r m (bx s.E (zEw r c s) s.pv.length) s.pv.length c s.last)/\∃k',zL7 C r m H (c+1) k' pc L (zGd r c s):=by
 obtain⟨h1,h2,h3,h4,h5,h6,h7⟩:=hi;have hD:=zH9 he k h2;by_cases hk:k<r
 ·have hcp:=h4 k (xgf _) hk
  by_cases e:pc k=c
  ·have hp:zEw r c s=k:=by
    unfold zEw;rw[h1];refine zB2 (xgf _) oM ?_ fun j hj1 hj2=>by omega
    rw[decide_eq_true_eq,h6 k (xgf _) hk c oM];exact Int.mul_ne_zero hD (by have:=he.pos k hk;rw[e]at this;omega)
   have hpk:L k c≠0:=by have:=he.pos k hk;rw[e]at this;omega
   have hval:∀i,i<r->i≠k->∀j,j<m->s.E k c*s.E i j-s.E i c*s.E k j=zGX L pc k*(L k c*s.E i j-s.E i c*L k j):=fun i hi hik j hj=>by
    rw[h6 k (xgf _) hk c oM,h6 k (xgf _) hk j hj];grind
   have hEx:ExS r m (bx s.E k k) k c s.last:=fun i hi hik j hj=>by
    rw[zFq,h5,hval i hi hik j hj];exact Int.dvd_mul_right _ _
   have hq:∀i,i<r->i≠k->∀j,j<m->yP (bx s.E k k) k c s.last i j=L k c*s.E i j-s.E i c*L k j:=fun i hi hik j hj=>by
    unfold yP;rw[if_neg hik,zFq,h5];exact zKe hD (hval i hi hik j hj)
   rw[hp,h1];refine⟨fun _ _=>hEx,k+1,?_⟩;unfold zGd;rw[hp,h1,if_pos ⟨hk,hk⟩];refine⟨by simp[h1],hk,fun t ht=>?_,fun t ht htr=>?_,?_,fun i hi hir j hj=>?_,fun i hir j hj=>?_⟩
   ·rcases Nat.lt_or_ge t k with h|h
    ·have:=h3 t h;omega
    ·obtain rfl:t=k:=by omega
     omega
   ·have:=he.inc k t oM htr;omega
   ·show bx s.E k k k c=zGX L pc k*L k (pc k)
    rw[zFq,e,h6 k (xgf _) hk c oM]
   ·show yP _ _ _ _ i j=zGX L pc k*L k (pc k)*L i j
    rw[hq i hir oM j hj,h6 i oM hir c oM,h6 i oM hir j hj,e,he.zero i hir c (by have:=he.inc k i oM hir;omega)];grind
   ·show(yP _ _ _ _ i j).natAbs<=_
    by_cases hik:i=k
    ·unfold yP
     rw[if_pos hik,zFq];exact Nat.le_trans (h7 i hir j hj) (Nat.pow_le_pow_right (by
      have:=hH k hk c oM;omega) oM)
    ·rw[hq i hir hik j hj,Int.mul_comm (s.E i c),Nat.pow_succ,Nat.mul_comm _ (2*H)]
     exact zHU (hH k hk c oM) (h7 i hir j hj) (hH k hk j hj) (h7 i hir c oM)
  ·have hz:∀i,k<=i->i<r->s.E i c=0:=fun i hi hir=>by
    rw[h6 i hi hir c oM,he.zero i hir c (by
     rcases Nat.lt_or_ge k i with h|h
     ·have:=he.inc k i h hir;omega
     ·obtain rfl:i=k:=by omega
      omega)]
    exact Int.mul_zero _
   have hp:¬ zEw r c s<r:=fun hlt=>by
    have g1:=zBG (fun i=>decide (s.E i c≠0)) s.pv.length (r-s.pv.length);have g2:=zBF (fun i=>decide (s.E i c≠0)) s.pv.length (r-s.pv.length) (by unfold zEw at hlt;omega);unfold zEw at hlt;rw[decide_eq_true_eq]at g2;exact g2 (hz _ oM hlt)
   refine⟨fun _ h=>absurd h hp,k,?_⟩;unfold zGd;rw[if_neg fun h=>hp h.2];exact⟨h1,h2,fun t ht=>by have:=h3 t ht;omega,fun t ht htr=>by
    rcases Nat.lt_or_ge k t with h|h
    ·have:=he.inc k t h htr;omega
    ·obtain rfl:t=k:=by omega
     omega,h5,h6,h7⟩
 ·refine⟨fun h=>by omega,k,?_⟩
  unfold zGd;rw[if_neg fun h=>by omega];exact⟨h1,h2,fun t ht=>by have:=h3 t ht;omega,fun t ht htr=>by omega,h5,h6,h7⟩
theorem zL7.run{C r m H:Nat}{pc:Nat->Nat}{L:Nat->Nat->Int}(he:Ech C r pc L)(hC:C<=m)(hH:∀i,i<r->∀j,j<m->(L i j).natAbs<=H):∀c,c<=C->∃k,zL7 C r m H c k pc L (zAi r L c)
 |0,_=>⟨0,rfl,Nat.zero_le _,fun t ht=>by omega,fun t _ _=>Nat.zero_le _,rfl,fun i _ _ j _=>(Int.one_mul _).symm,fun i hi j hj=>by rw[Nat.pow_one];exact Nat.le_trans (hH i hi j hj) oM⟩
 |c+1,hc=>by
  obtain⟨k,h⟩:=zL7.run he hC hH c oM;exact(h.step he hC hH oM).2
theorem zL7.ex{C r m H:Nat}{pc:Nat->Nat}{L:Nat->Nat->Int}(he:Ech C r pc L)(hC:C<=m)(hH:∀i,i<r->∀j,j<m->(L i j).natAbs<=H):ExR r m C L:=fun c hc=>by
 obtain⟨k,h⟩:=zL7.run he hC hH c oM;exact(h.step he hC hH hc).1
structure zL6(C r m H c:Nat)(pc:Nat->Nat)(h:Nat->Nat->Int)(s:BE):Prop where
 len:s.pv.length=c
 last:s.last=zGX h pc c
 pos:∀i,c<=i->i<C->∃t,t<=i/\∀j,c<=j->j<r->s.E i j=zGX h pc c*h j t
 at_:∀k,c<=k->k<r->∀j,c<=j->j<r->s.E (pc k) j=zGX h pc c*h j (pc k)
 up:∀i,i<c->∀j,c<=j->j<r->s.E i j=0
 bnd:∀i,i<C->∀j,j<m->(s.E i j).natAbs<=H*(2*H)^c
theorem zL6.step{C r m H c:Nat}{pc:Nat->Nat}{h L:Nat->Nat->Int}{s:BE}(he:Ech C r pc h)(hr:r<=m)(hrC:r<=C)(hhH:∀i,i<r->∀j,j<C->(h i j).natAbs<=H)(hi:zL6 C r m H c pc h s)(hc:c<r):
  ExS C m (bx s.E (zEw C c s) s.pv.length) s.pv.length c s.last/\zL6 C r m H (c+1) pc h (zGd C c s):=by
 obtain⟨h1,h2,h3,h4,h5,h6⟩:=hi;have hD:=zH9 he c oM;have hge:=he.ge c hc;have hlt:=he.lt c hc;have hpc:=he.pos c hc;have hp:zEw C c s=pc c:=by
  unfold zEw;rw[h1];refine zB2 hge oM ?_ fun j hj1 hj2=>?_
  ·rw[decide_eq_true_eq,h4 c (xgf _) hc c (xgf _) hc]
   exact Int.mul_ne_zero hD oM
  ·rw[decide_eq_false_iff_not,Decidable.not_not]
   obtain⟨t,ht,h⟩:=h3 j hj1 oM;rw[h c (xgf _) hc,he.zero c hc t oM,Int.mul_zero]
 rw[hp,h1];obtain⟨E,hE⟩:∃E,bx s.E (pc c) c=E:=⟨_,rfl⟩;have hEc:E c=s.E (pc c):=by
  rw[<-hE];unfold bx;by_cases e:c=pc c
  ·rw[if_pos e,<-e]
  ·rw[if_neg e,if_pos rfl]
 have hEp:∀k,k<c->E k=s.E k:=fun k hk=>by
  rw[<-hE];unfold bx;rw[if_neg oM,if_neg oM]
 have hEo:∀i,i≠pc c->i≠c->E i=s.E i:=fun i ha hb=>by
  rw[<-hE];unfold bx;rw[if_neg ha,if_neg hb]
 have hEq:E (pc c)=s.E c:=by
  rw[<-hE];unfold bx;rw[if_pos rfl]
 have hpos:∀i,c<i->i<C->∃t,t<=i/\t<C/\∀j,c<=j->j<r->E i j=zGX h pc c*h j t:=fun i hi hiC=>by
  by_cases e:i=pc c
  ·subst e
   obtain⟨t,ht,hh⟩:=h3 c (xgf _) oM;exact⟨t,by omega,by omega,by rw[hEq];exact hh⟩
  ·obtain⟨t,ht,hh⟩:=h3 i oM hiC
   exact⟨t,ht,by omega,by rw[hEo i e oM];exact hh⟩
 have hb:∀i,i<C->∀j,j<m->(E i j).natAbs<=H*(2*H)^c:=fun i hiC j hj=>by
  by_cases e:i=pc c
  ·subst e;rw[hEq];exact h6 c oM j hj
  ·by_cases e2:i=c
   ·subst e2;rw[hEc];exact h6 _ hlt j hj
   ·rw[hEo i e e2];exact h6 i hiC j hj
 have hcc:E c c=zGX h pc c*h c (pc c):=by rw[hEc];exact h4 c (xgf _) hc c (xgf _) hc
 have hcj:∀j,c<j->j<r->E c j=0:=fun j hj hjr=>by
  rw[hEc,h4 c (xgf _) hc j oM hjr,he.zero j hjr _ (he.inc c j hj hjr),Int.mul_zero]
 have hup:∀i,i<c->E i c=0:=fun i hi=>by rw[hEp i hi];exact h5 i hi c (xgf _) hc
 have hval:∀i,i<C->i≠c->∃y:Int,y.natAbs<=H/\(c<i->∃t,t<=i/\y=h c t/\∀j,c<=j->j<r->E i j=zGX h pc c*h j t)/\(i<c->y=0)/\∀j,j<m->E c c*E i j-E i c*E c j=zGX h pc c*(h c (pc c)*E i j-y*E c j):=fun i hiC hic=>by
  rcases Nat.lt_or_ge i c with hl|hl
  ·refine⟨0,Nat.zero_le _,fun h=>by omega,fun _=>rfl,fun j hj=>?_⟩
   rw[hup i hl,hcc];grind
  ·obtain⟨t,ht,htC,hh⟩:=hpos i oM hiC
   refine⟨h c t,hhH c hc t htC,fun _=>⟨t,ht,rfl,hh⟩,fun h=>by omega,fun j hj=>?_⟩;rw[hh c (xgf _) hc,hcc];grind
 refine⟨fun i hiC hic j hj=>?_,?_⟩
 ·rw[hE]
  obtain⟨y,-,-,-,hy⟩:=hval i hiC hic;rw[hy j hj,h2];exact Int.dvd_mul_right _ _
 ·unfold zGd
  rw[hp,h1,if_pos ⟨by omega,hlt⟩,hE];have hq:∀i,i<C->i≠c->∃y:Int,y.natAbs<=H/\(c<i->∃t,t<=i/\y=h c t/\∀j,c<=j->j<r->E i j=zGX h pc c*h j t)/\(i<c->y=0)/\∀j,j<m->yP E c c s.last i j=h c (pc c)*E i j-y*E c j:=fun i hiC hic=>by
   obtain⟨y,h7,h8,h9,hy⟩:=hval i hiC hic;refine⟨y,h7,h8,h9,fun j hj=>?_⟩;unfold yP;rw[if_neg hic,h2];exact zKe hD (hy j hj)
  have hcE:yP E c c s.last c=E c:=by
   funext j;unfold yP;rw[if_pos rfl]
  refine⟨by simp[h1],?_,fun i hi hiC=>?_,fun k hk hkr j hj hjr=>?_,fun i hi j hj hjr=>?_,fun i hiC j hj=>?_⟩
  ·exact hcc
  ·obtain⟨y,-,h8,-,hy⟩:=hq i hiC oM
   obtain⟨t,ht,hyt,hh⟩:=h8 oM;refine⟨t,ht,fun j hj hjr=>?_⟩;show yP E c c s.last i j=zGX h pc c*h c (pc c)*h j t;rw[hy j oM,hcj j oM hjr,hh j oM hjr];grind
  ·have hck:=he.inc c k oM hkr
   have hkC:=he.lt k hkr;obtain⟨y,-,-,-,hy⟩:=hq (pc k) hkC oM;show yP E c c s.last (pc k) j=zGX h pc c*h c (pc c)*h j (pc k);rw[hy j oM,hcj j oM hjr,hEo (pc k) oM oM,h4 k oM hkr j oM hjr];grind
  ·show yP E c c s.last i j=0
   by_cases e:i=c
   ·subst e;rw[hcE];exact hcj j oM hjr
   ·obtain⟨y,-,-,h9,hy⟩:=hq i oM e
    rw[hy j oM,h9 oM,hEp i oM,h5 i oM j oM hjr];grind
  ·show(yP E c c s.last i j).natAbs<=_
   have hH1:1<=2*H:=by have:=hhH c hc (pc c) hlt;omega
   have hpw:H*(2*H)^c<=H*(2*H)^(c+1):=Nat.mul_le_mul_left _ (Nat.pow_le_pow_right hH1 oM);by_cases e:i=c
   ·subst e;rw[hcE];exact Nat.le_trans (hb i hiC j hj) hpw
   ·obtain⟨y,h7,-,-,hy⟩:=hq i hiC e
    rw[hy j hj];refine Nat.le_trans (zHU (hhH c hc (pc c) hlt) (hb i hiC j hj) h7 (hb c oM j hj)) ?_;rw[Nat.pow_succ,<-Nat.mul_assoc,Nat.mul_comm (2*H)];exact Nat.le_of_eq (by grind)
theorem zL6.run{C r m H:Nat}{pc:Nat->Nat}{h L:Nat->Nat->Int}(he:Ech C r pc h)(hr:r<=m)(hrC:r<=C)(hhH:∀i,i<r->∀j,j<C->(h i j).natAbs<=H)(hL:∀i,i<C->∀j,j<r->L i j=h j i)(hLH:∀i,i<C->∀j,j<m->(L i j).natAbs<=H):∀c,c<=r->zL6 C r m H c pc h (zAi C L c)
 |0,_=>⟨rfl,rfl,fun i _ hi=>⟨i,xgf _,fun j _ hj=>by show L i j=1*h j i;rw[hL i hi j hj,Int.one_mul]⟩,fun k _ hk j _ hj=>by show L (pc k) j=1*h j (pc k);rw[hL _ (he.lt k hk) j hj,Int.one_mul],fun i hi=>by omega,fun i hi j hj=>by rw[Nat.pow_zero,Nat.mul_one];exact hLH i hi j hj⟩
 |c+1,hc=>((zL6.run he hr hrC hhH hL hLH c oM).step (L:=L) he hr hrC hhH oM).2
theorem zL6.ex{C r m H:Nat}{pc:Nat->Nat}{h L:Nat->Nat->Int}(he:Ech C r pc h)(hr:r<=m)(hrC:r<=C)(hhH:∀i,i<r->∀j,j<C->(h i j).natAbs<=H)(hL:∀i,i<C->∀j,j<r->L i j=h j i)(hLH:∀i,i<C->∀j,j<m->(L i j).natAbs<=H):ExR C m r L:=fun c hc _ _=>
 ((zL6.run he hr hrC hhH hL hLH c oM).step (L:=L) he hr hrC hhH hc).1
end Go.Proofs.YtnbmaipobhppcaaGreat
