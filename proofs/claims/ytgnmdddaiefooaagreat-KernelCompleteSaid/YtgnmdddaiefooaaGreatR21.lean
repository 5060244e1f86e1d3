/- Sums and determinants (Laplace along the first row) of integer matrices as functions. Plain Lean. -/

set_option linter.unusedVariables false
set_option linter.unusedSimpArgs false
set_option linter.unusedSectionVars false
set_option maxHeartbeats 16000000
set_option maxRecDepth 100000
namespace Go.Proofs.YtgnmdddaiefooaaGreat
theorem zFK{a b:Int}(h:a=b):a∣b:=⟨1,by rw[h,Int.mul_one]⟩
def zI:Nat->(Nat->Int)->Int
 |0,_=>0
 |n+1,f=>zI n f+f n
theorem zD{n:Nat}{f g:Nat->Int}(h:∀i,i<n->f i=g i):zI n f=zI n g:=by
 induction n with
 |zero=>rfl
 |succ n ih=>unfold zI;rw[ih (fun i hi=>h i (by omega)),h n (by omega)]
theorem yC{n:Nat}{f:Nat->Int}(h:∀i,i<n->f i=0):zI n f=0:=by
 induction n with
 |zero=>rfl
 |succ n ih=>unfold zI;rw[ih (fun i hi=>h i (by omega)),h n (by omega)];rfl
theorem jF(n:Nat)(f g:Nat->Int):zI n (fun i=>f i+g i)=zI n f+zI n g:=by
 induction n with
 |zero=>rfl
 |succ n ih=>unfold zI;rw[ih];dsimp only;omega
theorem zY(n:Nat)(k:Int)(f:Nat->Int):zI n (fun i=>k*f i)=k*zI n f:=by
 induction n with
 |zero=>unfold zI;rw[Int.mul_zero]
 |succ n ih=>unfold zI;rw[ih,Int.mul_add]
theorem jG(n:Nat)(k:Int)(f:Nat->Int):zI n (fun i=>f i*k)=zI n f*k:=by
 rw[Int.mul_comm,<-zY];exact zD fun i _=>Int.mul_comm _ _
theorem zIk(n:Nat)(x y:Int)(f g:Nat->Int):zI n (fun i=>x*f i+y*g i)=x*zI n f+y*zI n g:=by
 rw[jF,zY,zY]
theorem zFa(n:Nat)(f:Nat->Int):zI (n+1) f=f 0+zI n (fun i=>f (i+1)):=by
 induction n with
 |zero=>unfold zI zI;omega
 |succ n ih=>
  have h:zI (n+1+1) f=zI (n+1) f+f (n+1):=rfl;have h2:zI (n+1) (fun i=>f (i+1))=zI n (fun i=>f (i+1))+f (n+1):=rfl;rw[h,h2,ih];omega
theorem yB(n m:Nat)(f:Nat->Nat->Int):zI n (fun i=>zI m (fun j=>f i j))=zI m (fun j=>zI n (fun i=>f i j)):=by
 induction n with
 |zero=>exact(yC fun _ _=>rfl).symm
 |succ n ih=>
  show zI n (fun i=>zI m (fun j=>f i j))+zI m (fun j=>f n j)=zI m (fun j=>zI n (fun i=>f i j)+f n j);rw[jF,ih]
theorem qU{n:Nat}{f:Nat->Int}{c:Nat}(hc:c<n)(h:∀i,i<n->i≠c->f i=0):zI n f=f c:=by
 induction n with
 |zero=>omega
 | succ n ih=>
  unfold zI;by_cases e:c=n
  ·subst e
   rw[yC (fun i hi=>h i (by omega) (by omega))];omega
  ·rw[ih (by omega) (fun i hi hne=>h i (by omega) hne),h n (by omega) (by omega)];omega
theorem zMd{n:Nat}{f:Nat->Int}{c:Nat}(hc:c+1<n)(h:∀i,i<n->i≠c->i≠c+1->f i=0):zI n f=f c+f (c+1):=by
 induction n with
 |zero=>omega
 | succ n ih=>
  unfold zI;by_cases e:c+1=n
  ·subst e
   rw[qU (c:=c) (by omega) (fun i hi hne=>h i (by omega) hne (by omega))]
  ·rw[ih (by omega) (fun i hi h1 h2=>h i (by omega) h1 h2),h n (by omega) (by omega) (by omega)];omega
theorem zMb{n:Nat}{f:Nat->Int}{g:Int}(h:∀i,i<n->g∣f i):g∣zI n f:=by
 induction n with
 |zero=>exact⟨0,by unfold zI;omega⟩
 |succ n ih=>exact Int.dvd_add (ih fun i hi=>h i (by omega)) (h n (by omega))
theorem zBB{n m:Nat}(hnm:n<=m){f:Nat->Int}(h:∀i,n<=i->i<m->f i=0):zI m f=zI n f:=by
 induction m with
 |zero=>
  obtain rfl:n=0:=by omega
  rfl
 | succ m ih=>
  rcases Nat.lt_or_ge n (m+1)with h1|h1
  ·unfold zI
   rw[ih (by omega) (fun i a b=>h i a (by omega)),h m (by omega) (by omega)];have:∀n,zI n f=zI n f:=fun _=>rfl
   cases n<;>simp[zI]
  ·obtain rfl:n=m+1:=by omega
   rfl
theorem zAX{n:Nat}{f:Nat->Int}{B:Nat}(h:∀i,i<n->(f i).natAbs<=B):(zI n f).natAbs<=n*B:=by
 induction n with
 |zero=>simp[zI]
 |succ n ih=>
  have h1:=ih fun i hi=>h i (by omega)
  have h2:=h n (by omega);have h3:(zI n f+f n).natAbs<=(zI n f).natAbs+(f n).natAbs:=by omega
  have h4:(n+1)*B=n*B+B:=Nat.succ_mul n B;unfold zI;omega
def sk(j b:Nat):Nat:=if b<j then b else b+1
theorem zP2(j b:Nat):sk j b≠j:=by unfold sk;split<;>omega
theorem zJY{j b k:Nat}(h:b<k):sk j b<k+1:=by unfold sk;split<;>omega
theorem zAw(b:Nat):sk 0 b=b+1:=by unfold sk;split<;>omega
theorem zO6{j a b:Nat}(h:sk j a=sk j b):a=b:=by
 unfold sk at h;split at h<;>split at h<;>omega
def mnr(F:Nat->Nat->Int)(i j:Nat):Nat->Nat->Int:=fun a b=>F (sk i a) (sk j b)
def sg1(j:Nat):Int:=if j%2=0 then 1 else-1
theorem zMZ:sg1 0=1:=rfl
theorem zF5(j:Nat):sg1 (j+1)=-sg1 j:=by unfold sg1;split<;>split<;>omega
theorem zLJ(j:Nat)(z:Int):(sg1 j*z).natAbs=z.natAbs:=by unfold sg1;split<;>omega
def det:Nat->(Nat->Nat->Int)->Int
 |0,_=>1
 |k+1,F=>zI (k+1) fun j=>sg1 j*(F 0 j*det k (mnr F 0 j))
theorem jZ(k:Nat)(F:Nat->Nat->Int):det (k+1) F=zI (k+1) fun j=>sg1 j*(F 0 j*det k (mnr F 0 j)):=rfl
theorem qS{k:Nat}:∀{F G:Nat->Nat->Int},(∀a,a<k->∀b,b<k->F a b=G a b)->det k F=det k G:=by
 induction k with
 |zero=>intros;rfl
 |succ k ih=>
  intro F G h;rw[jZ,jZ];refine zD fun j hj=>?_
  rw[h 0 (by omega) j hj,ih (F:=mnr F 0 j) (G:=mnr G 0 j) fun a ha b hb=>h _ (zJY ha) _ (zJY hb)]
def zAg(F:Nat->Nat->Int)(c:Nat)(v:Nat->Int):Nat->Nat->Int:=fun a b=>if b=c then v a else F a b
def zE2(F:Nat->Nat->Int)(c:Nat)(v:Nat->Int):Nat->Nat->Int:=fun a b=>if a=c then v b else F a b
theorem zBe(F:Nat->Nat->Int)(i c:Nat)(v:Nat->Int):mnr (zAg F c v) i c=mnr F i c:=by
 funext a b
 unfold mnr zAg;rw[if_neg (zP2 c b)]
theorem zFv{F:Nat->Nat->Int}{i j c c':Nat}{v:Nat->Int}(h:sk j c=c'):mnr (zAg F c' v) i j=zAg (mnr F i j) c (fun a=>v (sk i a)):=by
 funext a b
 unfold mnr zAg;by_cases e:b=c
 ·rw[if_pos e,if_pos (by rw[e,h])]
 ·rw[if_neg e,if_neg (fun e'=>e (zO6 (e'.trans h.symm)))]
theorem zO7{j c:Nat}(h:c≠j):∃c',sk j c'=c/\(∀k,j<k+1->c<k+1->c'<k):=by
 by_cases h1:c<j
 ·exact⟨c,by unfold sk;rw[if_pos h1],fun k _ _=>by omega⟩
 ·exact⟨c-1,by unfold sk;rw[if_neg (by omega)];omega,fun k _ _=>by omega⟩
theorem zEL{k:Nat}:∀{F:Nat->Nat->Int} {c:Nat} {v w:Nat->Int} {x y:Int},c<k->
  det k (zAg F c fun a=>x*v a+y*w a)=x*det k (zAg F c v)+y*det k (zAg F c w):=by
 induction k with
 |zero=>intro F c v w x y h;omega
 | succ k ih=>
  intro F c v w x y hc;rw[jZ,jZ,jZ,<-zIk];refine zD fun j hj=>?_
  by_cases e:j=c
  ·subst e
   rw[zBe,zBe,zBe];unfold zAg;simp only[if_true];rw[Int.add_mul,Int.mul_add,Int.mul_assoc x,Int.mul_assoc y,Int.mul_left_comm (sg1 j) x,Int.mul_left_comm (sg1 j) y]
  ·obtain⟨c',h1,h2⟩:=zO7 (j:=j) (c:=c) (fun h=>e h.symm)
   rw[zFv h1,zFv h1,zFv h1,ih (h2 k hj hc)];have:∀u:Nat->Int,zAg F c u 0 j=F 0 j:=fun u=>by unfold zAg;rw[if_neg e]
   rw[this,this,this,Int.mul_add,Int.mul_add,Int.mul_left_comm (F 0 j) x,Int.mul_left_comm (F 0 j) y,Int.mul_left_comm (sg1 j) x,Int.mul_left_comm (sg1 j) y]
theorem zEs(F:Nat->Nat->Int)(c:Nat):zAg F c (fun a=>F a c)=F:=by
 funext a b
 unfold zAg;split
 ·rename_i h;rw[h]
 ·rfl
theorem zLI(F:Nat->Nat->Int)(c:Nat):zE2 F c (F c)=F:=by
 funext a b
 unfold zE2;split
 ·rename_i h;rw[h]
 ·rfl
theorem zBb{k:Nat}:∀{F:Nat->Nat->Int} {c:Nat},c+1<k->(∀a,F a c=F a (c+1))->det k F=0:=by
 induction k with
 |zero=>intro F c h;omega
 | succ k ih=>
  intro F c hc h;rw[jZ,zMd (c:=c) hc]
  ·rw[zF5,h 0]
   have:mnr F 0 c=mnr F 0 (c+1):=by
    funext a b
    unfold mnr;by_cases e:b=c
    ·rw[e]
     have h1:sk c c=c+1:=by unfold sk;rw[if_neg (by omega)]
     have h2:sk (c+1) c=c:=by unfold sk;rw[if_pos (by omega)]
     rw[h1,h2,h]
    ·have:sk c b=sk (c+1) b:=by unfold sk;split<;>split<;>omega
     rw[this]
   rw[this,Int.neg_mul];omega
  ·intro j hj h1 h2
   have:det k (mnr F 0 j)=0:=by
    rcases Nat.lt_or_ge j c with h3|h3
    ·refine ih (c:=c-1) (by omega) fun a=>?_
     unfold mnr;have e1:sk j (c-1)=c:=by unfold sk;rw[if_neg (by omega)];omega
     have e2:sk j (c-1+1)=c+1:=by unfold sk;rw[if_neg (by omega)];omega
     rw[e1,e2,h]
    ·refine ih (c:=c) (by omega) fun a=>?_
     unfold mnr;have e1:sk j c=c:=by unfold sk;rw[if_pos (by omega)]
     have e2:sk j (c+1)=c+1:=by unfold sk;rw[if_pos (by omega)]
     rw[e1,e2,h]
   rw[this,Int.mul_zero,Int.mul_zero]
theorem zCb{k:Nat}{F:Nat->Nat->Int}{c:Nat}{v w:Nat->Int}(h:c<k):det k (zAg F c fun a=>v a+w a)=det k (zAg F c v)+det k (zAg F c w):=by
 have:=zEL (F:=F) (v:=v) (w:=w) (x:=1) (y:=1) h;rw[Int.one_mul,Int.one_mul]at this;rw[<-this];congr 1
 funext a b
 unfold zAg;split
 ·show v a+w a=1*v a+1*w a
  rw[Int.one_mul,Int.one_mul]
 ·rfl
theorem zBW(F:Nat->Nat->Int)(c d:Nat)(v w:Nat->Int)(h:c≠d):zAg (zAg F c v) d w=zAg (zAg F d w) c v:=by
 funext a b
 unfold zAg;by_cases e:b=d
 ·rw[if_pos e,if_neg (by omega),if_pos e]
 ·rw[if_neg e]
  by_cases e2:b=c
  ·rw[if_pos e2,if_pos e2]
  ·rw[if_neg e2,if_neg e2,if_neg e]
theorem zDi{k:Nat}{F G:Nat->Nat->Int}{c:Nat}(hc:c+1<k)(h:∀a b,G a b=F a (if b=c then c+1 else if b=c+1 then c else b)):det k G=-det k F:=by
 have key:∀v w:Nat->Int,det k (zAg (zAg F c v) (c+1) w)=-det k (zAg (zAg F c w) (c+1) v):=by
  intro v w;have h0:det k (zAg (zAg F c fun a=>v a+w a) (c+1) fun a=>v a+w a)=0:=zBb hc fun a=>by
   unfold zAg;rw[if_neg (by omega),if_pos rfl,if_pos rfl]
  have hv:det k (zAg (zAg F c v) (c+1) v)=0:=zBb hc fun a=>by
   unfold zAg;rw[if_neg (by omega),if_pos rfl,if_pos rfl]
  have hw:det k (zAg (zAg F c w) (c+1) w)=0:=zBb hc fun a=>by
   unfold zAg;rw[if_neg (by omega),if_pos rfl,if_pos rfl]
  rw[zCb hc,zBW _ _ _ _ v (by omega),zBW _ _ _ _ w (by omega),zCb (by omega),zCb (by omega)]at h0;rw[zBW _ _ _ _ v (by omega)]at hv;rw[zBW _ _ _ _ w (by omega)]at hw;rw[zBW F c (c+1) v w (by omega),zBW F c (c+1) w v (by omega)];omega
 have h1:=key (fun a=>F a (c+1)) (fun a=>F a c);have e1:zAg (zAg F c fun a=>F a (c+1)) (c+1) (fun a=>F a c)=G:=by
  funext a b
  rw[h];unfold zAg;by_cases e:b=c
  ·rw[if_neg (by omega),if_pos e,if_pos e]
  ·rw[if_neg e,if_neg e]
   split<;>rfl
 have e2:zAg (zAg F c fun a=>F a c) (c+1) (fun a=>F a (c+1))=F:=by rw[zEs,zEs]
 rw[<-e1,h1,e2]
theorem zDM{k:Nat}{F:Nat->Nat->Int}{c d:Nat}(hcd:c<d)(hd:d<k)(h:∀a,F a c=F a d):det k F=0:=by
 obtain⟨n,hn⟩:∃n,d=c+1+n:=⟨d-(c+1),by omega⟩;induction n generalizing F d with
 |zero=>subst hn;exact zBb hd h
 | succ n ih=>
  have h1:=zDi (k:=k) (F:=F) (G:=fun a b=>F a (if b=d-1 then d-1+1 else if b=d-1+1 then d-1 else b)) (c:=d-1) (by omega) fun a b=>rfl
  have h2:=ih (F:=fun a b=>F a (if b=d-1 then d-1+1 else if b=d-1+1 then d-1 else b)) (d:=d-1) (by omega) (by omega) (fun a=>by
   rw[if_neg (by omega),if_neg (by omega),if_pos rfl,h];congr 1;omega) (by omega)
  omega
theorem zCt(k:Nat):∀F:Nat->Nat->Int,det (k+1) F=zI (k+1) fun i=>sg1 i*(F i 0*det k (mnr F i 0)):=by
 induction k with
 |zero=>intro F;rfl
 | succ k ih=>
  intro F;rw[jZ,zFa,zFa _ (fun i=>sg1 i*(F i 0*det (k+1) (mnr F i 0)))];congr 1;have e1:∀j,det (k+1) (mnr F 0 (j+1))=zI (k+1) fun i=>sg1 i*(F (i+1) 0*det k (fun a b=>F (sk i a+1) (sk j b+1))):=by
   intro j;rw[ih];refine zD fun i hi=>?_
   have a1:mnr F 0 (j+1) i 0=F (i+1) 0:=by
    unfold mnr;rw[zAw];rfl
   have a2:mnr (mnr F 0 (j+1)) i 0=fun a b=>F (sk i a+1) (sk j b+1):=by
    funext a b
    unfold mnr;rw[zAw,zAw];congr 1;unfold sk;split<;>split<;>omega
   rw[a1,a2]
  have e2:∀i,det (k+1) (mnr F (i+1) 0)=zI (k+1) fun j=>sg1 j*(F 0 (j+1)*det k (fun a b=>F (sk i a+1) (sk j b+1))):=by
   intro i;rw[jZ];refine zD fun j hj=>?_
   have a1:mnr F (i+1) 0 0 j=F 0 (j+1):=by
    unfold mnr;rw[zAw];rfl
   have a2:mnr (mnr F (i+1) 0) 0 j=fun a b=>F (sk i a+1) (sk j b+1):=by
    funext a b
    unfold mnr;rw[zAw,zAw];congr 1;unfold sk;split<;>split<;>omega
   rw[a1,a2]
  have l1:zI (k+1) (fun j=>sg1 (j+1)*(F 0 (j+1)*det (k+1) (mnr F 0 (j+1))))=zI (k+1) fun j=>zI (k+1) fun i=>sg1 (j+1)*(F 0 (j+1)*(sg1 i*(F (i+1) 0*det k (fun a b=>F (sk i a+1) (sk j b+1))))):=by
   refine zD fun j hj=>?_
   rw[e1 j,<-zY,<-zY]
  have l2:zI (k+1) (fun i=>sg1 (i+1)*(F (i+1) 0*det (k+1) (mnr F (i+1) 0)))=zI (k+1) fun i=>zI (k+1) fun j=>sg1 (i+1)*(F (i+1) 0*(sg1 j*(F 0 (j+1)*det k (fun a b=>F (sk i a+1) (sk j b+1))))):=by
   refine zD fun i hi=>?_
   rw[e2 i,<-zY,<-zY]
  rw[l1,l2,yB];refine zD fun i hi=>zD fun j hj=>?_
  rw[zF5,zF5];generalize det k _=D;generalize F 0 (j+1)=P;generalize F (i+1) 0=Q;generalize sg1 i=s;generalize sg1 j=t;grind
def trp(F:Nat->Nat->Int):Nat->Nat->Int:=fun a b=>F b a
theorem jM(k:Nat):∀F:Nat->Nat->Int,det k (trp F)=det k F:=by
 induction k with
 |zero=>intro F;rfl
 |succ k ih=>
  intro F;rw[jZ,zCt];refine zD fun j hj=>?_
  have:mnr (trp F) 0 j=trp (mnr F j 0):=rfl;rw[this,ih];rfl
theorem zEM{k:Nat}{F:Nat->Nat->Int}{c:Nat}{v w:Nat->Int}{x y:Int}(h:c<k):
  det k (zE2 F c fun a=>x*v a+y*w a)=x*det k (zE2 F c v)+y*det k (zE2 F c w):=by
 have e:∀u,trp (zE2 F c u)=zAg (trp F) c u:=fun u=>rfl
 rw[<-jM,<-jM k (zE2 F c v),<-jM k (zE2 F c w),e,e,e];exact zEL h
theorem zAE{k:Nat}{F:Nat->Nat->Int}{c:Nat}(h:c<k)(h0:∀b,b<k->F c b=0):det k F=0:=by
 have:=zEM (F:=F) (v:=F c) (w:=F c) (x:=0) (y:=0) h;rw[Int.zero_mul (det k _),Int.zero_add]at this;rw[<-this];refine qS fun a ha b hb=>?_
 unfold zE2;split
 ·rename_i e;rw[e,h0 b hb];simp
 ·rfl
theorem zGZ{k:Nat}{F:Nat->Nat->Int}{c:Nat}(h:c<k)(h0:∀a,a<k->F a c=0):det k F=0:=by
 rw[<-jM];exact zAE h fun b hb=>h0 b hb
theorem zB7{k:Nat}{F:Nat->Nat->Int}{c d:Nat}(hcd:c<d)(hd:d<k)(h:∀b,F c b=F d b):det k F=0:=by
 rw[<-jM];exact zDM hcd hd h
theorem zGb{k:Nat}{F G:Nat->Nat->Int}{c:Nat}(hc:c+1<k)(h:∀a b,G a b=F (if a=c then c+1 else if a=c+1 then c else a) b):det k G=-det k F:=by
 rw[<-jM k G,<-jM k F];exact zDi hc fun a b=>h b a
theorem zCc{k R:Nat}{F:Nat->Nat->Int}{i:Nat}{c:Nat->Int}{v:Nat->Nat->Int}(h:i<k):
  det k (zE2 F i fun b=>zI R fun t=>c t*v t b)=zI R fun t=>c t*det k (zE2 F i (v t)):=by
 induction R with
 |zero=>exact zAE h fun b hb=>by unfold zE2;rw[if_pos rfl];rfl
 | succ R ih=>
  show det k (zE2 F i fun b=>zI R (fun t=>c t*v t b)+c R*v R b)=_;have e:(fun b=>zI R (fun t=>c t*v t b)+c R*v R b)=fun b=>1*(fun b=>zI R fun t=>c t*v t b) b+c R*v R b:=by
   funext b
   rw[Int.one_mul]
  rw[e,zEM h,ih,Int.one_mul];rfl
theorem jA{k R:Nat}{F P:Nat->Nat->Int}{g:Int}(h:∀σ:Nat->Nat,(∀a,a<k->σ a<R)->g∣det k fun a b=>F (σ a) b):
  g∣det k fun a b=>zI R fun t=>P a t*F t b:=by
 have key:∀i,i<=k->∀σ:Nat->Nat,(∀a,a<k->σ a<R)->g∣det k fun a b=>if a<i then zI R fun t=>P a t*F t b else F (σ a) b:=by
  intro i;induction i with
  |zero=>
   intro _ σ hσ;have:=h σ hσ;simpa using this
  | succ i ih=>
   intro hi σ hσ;have e:(fun a b=>if a<i+1 then zI R fun t=>P a t*F t b else F (σ a) b)=zE2 (fun a b=>if a<i then zI R fun t=>P a t*F t b else F (σ a) b) i fun b=>zI R fun t=>P i t*F t b:=by
    funext a b
    unfold zE2;by_cases e:a=i
    ·rw[if_pos e,if_pos (by omega),e]
    ·rw[if_neg e]
     dsimp only;by_cases e2:a<i
     ·rw[if_pos e2,if_pos (by omega)]
     ·rw[if_neg e2,if_neg (by omega)]
   rw[e,zCc (by omega)];refine zMb fun t ht=>Int.dvd_trans ?_ (Int.dvd_mul_left _ _)
   have:=ih (by omega) (fun a=>if a=i then t else σ a) fun a ha=>by
    split
    ·exact ht
    ·exact hσ a ha
   have e3:(fun a b=>if a<i then zI R fun t=>P a t*F t b else F ((fun a=>if a=i then t else σ a) a) b)=zE2 (fun a b=>if a<i then zI R fun t=>P a t*F t b else F (σ a) b) i (F t):=by
    funext a b
    unfold zE2;dsimp only;by_cases e:a=i
    ·rw[if_pos e,if_pos e,if_neg (by omega)]
    ·rw[if_neg e,if_neg e]
   rw[e3]at this;exact this
 by_cases hR:0<R
 ·have:=key k (Nat.le_refl _) (fun _=>0) (fun _ _=>hR)
  refine Int.dvd_trans this (zFK (qS fun a ha b hb=>?_));rw[if_pos ha]
 ·obtain rfl:R=0:=by omega
  rcases Nat.eq_zero_or_pos k with hk|hk
  ·subst hk
   exact h (fun _=>0) (fun a ha=>by omega)
  ·rw[zAE hk fun b hb=>rfl]
   exact Int.dvd_zero g
theorem zA6{k C:Nat}{F Q:Nat->Nat->Int}{g:Int}(h:∀τ:Nat->Nat,(∀a,a<k->τ a<C)->g∣det k fun a b=>F a (τ b)):
  g∣det k fun a b=>zI C fun t=>F a t*Q t b:=by
 rw[<-jM];have:=jA (k:=k) (R:=C) (F:=trp F) (P:=trp Q) (g:=g) fun σ hσ=>by
  rw[<-jM];exact h σ hσ
 refine Int.dvd_trans this (zFK (qS fun a ha b hb=>?_));unfold trp;exact zD fun t ht=>Int.mul_comm _ _
theorem zGa{k R C:Nat}{F P Q:Nat->Nat->Int}{g:Int}(h:∀σ τ:Nat->Nat,(∀a,a<k->σ a<R)->(∀a,a<k->τ a<C)->g∣det k fun a b=>F (σ a) (τ b)):
  g∣det k fun a b=>zI R fun s=>P a s*zI C fun t=>F s t*Q t b:=
 jA (F:=fun s b=>zI C fun t=>F s t*Q t b) fun σ hσ=>zA6 (F:=fun a b=>F (σ a) b) fun τ hτ=>h σ τ hσ hτ
def Inc(k:Nat)(σ:Nat->Nat):Prop:=∀a,a+1<k->σ a<σ (a+1)
def wt:Nat->(Nat->Nat)->Nat
 |0,_=>0
 |n+1,σ=>wt n σ+n*σ n
theorem zPC{n R:Nat}{σ:Nat->Nat}(h:∀a,a<n->σ a<R):wt n σ<=n*(n*R):=by
 induction n with
 |zero=>simp[wt]
 |succ n ih=>
  have h1:=ih fun a ha=>h a (by omega)
  have h2:=h n (by omega);unfold wt;have h3:n*σ n<=n*R:=Nat.mul_le_mul_left _ (by omega);have h4:n*(n*R)<=n*((n+1)*R):=Nat.mul_le_mul_left _ (Nat.mul_le_mul_right _ (by omega));have h5:(n+1)*((n+1)*R)=n*((n+1)*R)+(n+1)*R:=Nat.succ_mul _ _;have h6:(n+1)*R=n*R+R:=Nat.succ_mul _ _;omega
theorem zMo{n:Nat}{σ τ:Nat->Nat}(h:∀a,a<n->σ a=τ a):wt n σ=wt n τ:=by
 induction n with
 |zero=>rfl
 |succ n ih=>unfold wt;rw[ih fun a ha=>h a (by omega),h n (by omega)]
theorem zLj{n:Nat}{σ τ:Nat->Nat}{c:Nat}(hc:c+1<n)(h:∀a,τ a=σ (if a=c then c+1 else if a=c+1 then c else a))(hlt:σ (c+1)<σ c):wt n σ<wt n τ:=by
 obtain⟨m,rfl⟩:∃m,n=c+2+m:=⟨n-(c+2),by omega⟩;clear hc;induction m with
 |zero=>
  show wt c σ+c*σ c+(c+1)*σ (c+1)<wt c τ+c*τ c+(c+1)*τ (c+1);have h1:wt c σ=wt c τ:=zMo fun a ha=>by rw[h,if_neg (by omega),if_neg (by omega)]
  have h2:τ c=σ (c+1):=by rw[h,if_pos rfl]
  have h3:τ (c+1)=σ c:=by rw[h,if_neg (by omega),if_pos rfl]
  rw[h1,h2,h3];have e1:(c+1)*σ (c+1)=c*σ (c+1)+σ (c+1):=Nat.succ_mul _ _;have e2:(c+1)*σ c=c*σ c+σ c:=Nat.succ_mul _ _;omega
 |succ m ih=>
  show wt (c+2+m) σ+(c+2+m)*σ (c+2+m)<wt (c+2+m) τ+(c+2+m)*τ (c+2+m);have h1:τ (c+2+m)=σ (c+2+m):=by rw[h,if_neg (by omega),if_neg (by omega)]
  rw[h1];omega
theorem zAd{k R:Nat}{F:Nat->Nat->Int}{g:Int}(h:∀σ:Nat->Nat,(∀a,a<k->σ a<R)->Inc k σ->g∣det k fun a b=>F (σ a) b):
  ∀σ:Nat->Nat,(∀a,a<k->σ a<R)->g∣det k fun a b=>F (σ a) b:=by
 have key:∀n,∀σ:Nat->Nat,(∀a,a<k->σ a<R)->k*(k*R)-wt k σ<=n->g∣det k fun a b=>F (σ a) b:=by
  intro n;induction n with
  | zero=>
   intro σ hσ hn;by_cases hi:∀a,a+1<k->σ a<σ (a+1)
   ·exact h σ hσ hi
   ·obtain⟨c,hc⟩:=Classical.not_forall.1 hi
    obtain⟨hc1,hc2⟩:=Classical.not_imp.1 hc;rcases Nat.lt_or_ge (σ (c+1)) (σ c)with h1|h1
    ·have hs:=zLj (n:=k) (σ:=σ) (τ:=fun a=>σ (if a=c then c+1 else if a=c+1 then c else a)) hc1 (fun a=>rfl) h1
     have hl:=zPC (n:=k) (R:=R) (σ:=fun a=>σ (if a=c then c+1 else if a=c+1 then c else a)) fun a ha=>hσ _ (by split;omega;split<;>omega)
     omega
    ·rw[zB7 (c:=c) (d:=c+1) (by omega) hc1 (fun b=>by
      have:σ c=σ (c+1):=by omega
      show F (σ c) b=F (σ (c+1)) b;rw[this])]
     exact Int.dvd_zero g
  | succ n ih=>
   intro σ hσ hn;by_cases hi:∀a,a+1<k->σ a<σ (a+1)
   ·exact h σ hσ hi
   ·obtain⟨c,hc⟩:=Classical.not_forall.1 hi
    obtain⟨hc1,hc2⟩:=Classical.not_imp.1 hc;rcases Nat.lt_or_ge (σ (c+1)) (σ c)with h1|h1
    ·have hs:=zLj (n:=k) (σ:=σ) (τ:=fun a=>σ (if a=c then c+1 else if a=c+1 then c else a)) hc1 (fun a=>rfl) h1
     have hr:∀a,a<k->σ (if a=c then c+1 else if a=c+1 then c else a)<R:=fun a ha=>hσ _ (by split;omega;split<;>omega)
     have hl:=zPC (n:=k) (R:=R) (σ:=fun a=>σ (if a=c then c+1 else if a=c+1 then c else a)) hr;have:=ih (fun a=>σ (if a=c then c+1 else if a=c+1 then c else a)) hr (by omega);rw[zGb (F:=fun a b=>F (σ a) b) hc1 (fun a b=>rfl)]at this;exact Int.dvd_neg.1 this
    ·rw[zB7 (c:=c) (d:=c+1) (by omega) hc1 (fun b=>by
      have:σ c=σ (c+1):=by omega
      show F (σ c) b=F (σ (c+1)) b;rw[this])]
     exact Int.dvd_zero g
 exact fun σ hσ=>key _ σ hσ (Nat.le_refl _)
theorem zGe{k C:Nat}{F:Nat->Nat->Int}{g:Int}(h:∀τ:Nat->Nat,(∀a,a<k->τ a<C)->Inc k τ->g∣det k fun a b=>F a (τ b)):
  ∀τ:Nat->Nat,(∀a,a<k->τ a<C)->g∣det k fun a b=>F a (τ b):=by
 intro τ hτ;rw[<-jM];refine zAd (F:=trp F) (fun σ hσ hi=>?_) τ hτ;rw[<-jM];exact h σ hσ hi
theorem zDk{k R C:Nat}{F:Nat->Nat->Int}{g:Int}(h:∀σ τ:Nat->Nat,(∀a,a<k->σ a<R)->(∀a,a<k->τ a<C)->Inc k σ->Inc k τ->g∣det k fun a b=>F (σ a) (τ b)):
  ∀σ τ:Nat->Nat,(∀a,a<k->σ a<R)->(∀a,a<k->τ a<C)->g∣det k fun a b=>F (σ a) (τ b):=by
 intro σ τ hσ hτ;refine zAd (F:=fun a b=>F a (τ b)) (fun σ hσ hi=>?_) σ hσ;exact zGe (F:=fun a b=>F (σ a) b) (fun τ hτ hj=>h σ τ hσ hτ hi hj) τ hτ
theorem Inc.le{k:Nat}{σ:Nat->Nat}(h:Inc k σ):∀a,a<k->a<=σ a:=by
 intro a;induction a with
 |zero=>intro _;omega
 |succ a ih=>
  intro ha;have h1:=ih (by omega);have h2:=h a ha;omega
theorem Inc.lt{k:Nat}{σ:Nat->Nat}(h:Inc k σ):∀a b,a<b->b<k->σ a<σ b:=by
 intro a b hab;induction b with
 |zero=>omega
 | succ b ih=>
  intro hb;have h2:=h b hb;rcases Nat.lt_or_ge a b with h3|h3
  ·have:=ih h3 (by omega)
   omega
  ·obtain rfl:a=b:=by omega
   exact h2
def yY:Nat->(Nat->Int)->Int
 |0,_=>1
 |n+1,f=>yY n f*f n
theorem zHj(n:Nat)(f:Nat->Int):yY (n+1) f=f 0*yY n (fun i=>f (i+1)):=by
 induction n with
 |zero=>unfold yY yY;rw[Int.one_mul,Int.mul_one]
 |succ n ih=>
  have h:yY (n+1+1) f=yY (n+1) f*f (n+1):=rfl;have h2:yY (n+1) (fun i=>f (i+1))=yY n (fun i=>f (i+1))*f (n+1):=rfl;rw[h,h2,ih,Int.mul_assoc]
theorem zEl{n:Nat}{f:Nat->Int}(h:∀i,i<n->0<f i):0<yY n f:=by
 induction n with
 |zero=>exact Int.one_pos
 |succ n ih=>exact Int.mul_pos (ih fun i hi=>h i (by omega)) (h n (by omega))
theorem zKw{n:Nat}{f g:Nat->Int}(h:∀i,i<n->f i∣g i):yY n f∣yY n g:=by
 induction n with
 |zero=>exact Int.dvd_refl _
 |succ n ih=>exact Int.mul_dvd_mul (ih fun i hi=>h i (by omega)) (h n (by omega))
theorem zBJ{k:Nat}:∀{F:Nat->Nat->Int},(∀a,a<k->∀b,b<k->a<b->F a b=0)->det k F=yY k fun i=>F i i:=by
 induction k with
 |zero=>intros;rfl
 | succ k ih=>
  intro F h;rw[jZ,qU (c:=0) (by omega),zMZ,Int.one_mul,zHj,ih]
  ·rfl
  ·intro a ha b hb hab
   unfold mnr;rw[zAw,zAw];exact h _ (by omega) _ (by omega) (by omega)
  ·intro j hj hne
   rw[h 0 (by omega) j hj (by omega),Int.zero_mul,Int.mul_zero]
theorem zCv{k:Nat}{F:Nat->Nat->Int}(h:∀a,a<k->∀b,b<k->b<a->F a b=0):det k F=yY k fun i=>F i i:=by
 rw[<-jM,zBJ]
 ·rfl
 ·intro a ha b hb hab
  exact h b hb a ha hab
def zHQ:Nat->Nat
 |0=>1
 |n+1=>(n+1)*zHQ n
theorem zIv{k h:Nat}:∀{F:Nat->Nat->Int},(∀a,a<k->∀b,b<k->(F a b).natAbs<=h)->(det k F).natAbs<=zHQ k*h^k:=by
 induction k with
 |zero=>intro F _;simp[det,zHQ]
 | succ k ih=>
  intro F hF;rw[jZ];refine Nat.le_trans (zAX (B:=h*(zHQ k*h^k)) fun j hj=>?_) ?_
  ·rw[zLJ,Int.natAbs_mul]
   exact Nat.mul_le_mul (hF 0 (by omega) j hj) (ih fun a ha b hb=>hF _ (zJY ha) _ (zJY hb))
  ·show _<=(k+1)*zHQ k*h^(k+1)
   rw[Nat.pow_succ];apply Nat.le_of_eq;rw[Nat.mul_left_comm h,Nat.mul_comm h,Nat.mul_assoc]
end Go.Proofs.YtgnmdddaiefooaaGreat
