/- Joined. -/
import Derived.Test.YtniiekppgdkknaaGreatM11
import Derived.Test.YtniiekppgdkknaaGreatM12
set_option linter.unusedVariables false
set_option linter.unusedSimpArgs false
set_option linter.unusedSectionVars false
set_option maxHeartbeats 16000000
set_option maxRecDepth 100000
variable{a:Int}{B C R h i j j0 k m n r r1 r2 t:Nat}{b f g x:Nat->Int}{c c1 c2:Nat->Nat}{A F H L X:Nat->Nat->Int}
namespace Go.Proofs.YtniiekppgdkknaaGreat
open Go.RowKit
theorem zUN{c:Nat}(hc:c<C)(h:F i c≠0)(f:∀t,t<c->F i t=0):lead C F i=(c:Int):=by
 rcases zDO C F i with⟨-,a⟩|⟨j,b,a,d,e⟩
 exact absurd (a c hc) h;rcases zBg j c with h5|h5|h5
 exact absurd (f j h5) d;rw[b,h5];exact absurd (e c h5) h
theorem zJx(d:∀t,t<C->F i t=0):lead C F i=-1:=by
 rcases zDO C F i with⟨a,-⟩|⟨j,a,b,c,e⟩
 exact a;exact absurd (d j b) c
theorem zJw(h:lead C F i<0):∀t,t<C->F i t=0:=by
 rcases zDO C F i with⟨-,a⟩|⟨j,a,-⟩
 exact a;omega
structure Ech(C r:Nat)(c:Nat->Nat)(F:Nat->Nat->Int):Prop where
 lt:∀k,k<r->c k<C
 pos:∀k,k<r->0<F k (c k)
 zero:∀k,k<r->∀t,t<c k->F k t=0
 inc:∀k l,k<l->l<r->c k<c l
theorem Ech.lead(h:Ech C r c F)(a:k<r):lead C F k=(c k:Int):=zUN (h.lt k a) (by have:=h.pos k a;omega) (h.zero k a)
def zVs(k:Nat):Nat->List Op
 |0=>[]
 |m+1=>.swap (k+m+1) (k+m)::zVs k m
def zXu(k m a:Nat):Nat:=if a=k then k+m else if k<a/\a<=k+m then a-1 else a
theorem zUM{Z a b:Nat}(c:1<=Z)(h:a<=b):Z^a<=Z^b:=zX c h
def zXM(Cs m rank:Nat)(F G:Nat->Nat->Int)(b:Bool)(c':Nat->Nat):Prop:=
 Ech Cs (if b then rank+1 else rank) c' G/\(∀a,(if b then rank+1 else rank)<=a->a<=m->∀t,t<Cs->G a t=0)/\∀a,m<a->∀t,G a t=F a t
def zLt(P:Nat->Nat->Prop)(r:Nat)(c:Nat->Nat)(F:Nat->Nat->Int):Prop:=∀i j,i<j->j<r->P i j->0<=F i (c j)/\F i (c j)<F j (c j)
def zTT(rank:Nat):Nat->Nat
 |0=>0
 |i+1=>(rank-(i+1))+zTT rank i
structure Hnf(C n r:Nat)(c:Nat->Nat)(F:Nat->Nat->Int):Prop where
 le:r<=n
 ech:Ech C r c F
 red:zLt (fun _ _=>True) r c F
 zero:∀a,r<=a->a<n->∀t,t<C->F a t=0
def ecE:Nat->Nat->Nat
 |0,_=>1
 |l+1,m=>4^m*2^(m*(m+1)/2)*ecE l (m+1)
def KE:Nat:=4194304
def zKL(h:Nat->Nat->Int)(pc:Nat->Nat):Nat->Int
 |0=>1
 |k+1=>zKL h pc k*h k (pc k)
theorem zMT{C r:Nat}{h:Nat->Nat->Int}{pc:Nat->Nat}(a:Ech C r pc h):∀k,k<=r->zKL h pc k≠0
 |0,_=>fun h=>absurd (show(1:Int)=0 from h) dE
 |k+1,b=>Int.mul_ne_zero (zMT a k oM) (by have:=a.pos k oM;omega)
theorem Ech.ge{C r:Nat}{pc:Nat->Nat}{h:Nat->Nat->Int}(a:Ech C r pc h):∀k,k<r->k<=pc k
 |0,_=>zG _
 |k+1,b=>by have c:=a.ge k oM;have d:=a.inc k (k+1) oM b;omega
theorem zGr{b:Int}{x y z:Nat}(c:a.natAbs<=x)(d:b.natAbs<=y)(h:x*y<=z):(a*b).natAbs<=z:=by
 rw[qT];exact zF (qP c d) h
theorem zLX{p x y z:Int}{H X:Nat}(a:p.natAbs<=H)(b:x.natAbs<=X)(c:y.natAbs<=H)(d:z.natAbs<=X):(p*x-y*z).natAbs<=2*H*X:=by
 have e:=zGr (z:=H*X) a b (xgf _);have f:=zGr (z:=H*X) c d (xgf _);have g:=Int.natAbs_sub_le (p*x) (y*z);rw[zN,Nat.two_mul];omega
theorem zGx{C r H:Nat}{h:Nat->Nat->Int}{pc:Nat->Nat}(b:Ech C r pc h)(a:∀k,k<r->(h k (pc k)).natAbs<=H):∀k,k<=r->(zKL h pc k).natAbs<=H^k
 |0,_=>xgf _
 |k+1,c=>zGr (zGx b a k oM) (a k oM) (by rw[qE];exact xgf _)
theorem zJX{E:Nat->Nat->Int}:bx E k k=E:=by
 funext a
 unfold bx;by_cases e:a=k
 .rw[zC e,e]
 rw[zA e,zA e]
theorem zPa{q b:Int}(c:q≠0)(h:a=q*b):a/q=b:=by rw[h];exact jY _ c
structure zRL(C r m H c k:Nat)(pc:Nat->Nat)(L:Nat->Nat->Int)(s:BE):Prop where
 len:s.pv.length=k
 le:k<=r
 bef:∀t,t<k->pc t<c
 aft:∀t,k<=t->t<r->c<=pc t
 last:s.last=zKL L pc k
 low:∀i,k<=i->i<r->∀j,j<m->s.E i j=zKL L pc k*L i j
 bnd:∀i,i<r->∀j,j<m->(s.E i j).natAbs<=(2*H)^(k+1)
theorem zRL.step{H c:Nat}{pc:Nat->Nat}{s:BE}(g:Ech C r pc L)(N:C<=m)(z:∀i,i<r->∀j,j<m->(L i j).natAbs<=H)(l:zRL C r m H c k pc L s)(hc:c<C):
  (s.pv.length<r->zIe r c s<r->ExS r m (bx s.E (zIe r c s) s.pv.length) s.pv.length c s.last)/\∃K,zRL C r m H (c+1) K pc L (zKU r c s):=by
 obtain⟨p,x,y,G,v,f,q⟩:=l;have D:=zMT g k x;by_cases d:k<r
 .have O:=G k (xgf _) d
  by_cases e:pc k=c
  .have u:zIe r c s=k:=by
    unfold zIe;rw[p];refine zDp (xgf _) oM ?_ fun j P Q=>by omega
    rw[decide_eq_true_eq,f k (xgf _) d c oM];exact Int.mul_ne_zero D (by have:=g.pos k d;rw[e]at this;omega)
   have R:L k c≠0:=by have:=g.pos k d;rw[e]at this;omega
   have F:∀i,i<r->i≠k->∀j,j<m->s.E k c*s.E i j-s.E i c*s.E k j=zKL L pc k*(L k c*s.E i j-s.E i c*L k j):=fun i l n j b=>by
    rw[f k (xgf _) d c oM,f k (xgf _) d j b];grind
   have I:ExS r m (bx s.E k k) k c s.last:=fun i l n j b=>by
    rw[zJX,v,F i l n j b];exact Int.dvd_mul_right _ _
   have E:∀i,i<r->i≠k->∀j,j<m->zBT (bx s.E k k) k c s.last i j=L k c*s.E i j-s.E i c*L k j:=fun i l n j b=>by
    unfold zBT;rw[zA n,zJX,v];exact zPa D (F i l n j b)
   rw[u,p];refine⟨fun _ _=>I,k+1,?_⟩;unfold zKU;rw[u,p,zC ⟨d,d⟩];refine⟨by simp[p],d,fun t o=>?_,fun t o w=>?_,?_,fun i l a j b=>?_,fun i a j b=>?_⟩
   .rcases zJ t k with h|h
    .have:=y t h;omega
    obtain rfl:t=k:=by omega
    omega
   have:=g.inc k t oM w;omega
   .show bx s.E k k k c=zKL L pc k*L k (pc k)
    rw[zJX,e,f k (xgf _) d c oM]
   .show zBT _ _ _ _ i j=zKL L pc k*L k (pc k)*L i j
    rw[E i a oM j b,f i oM a c oM,f i oM a j b,e,g.zero i a c (by have:=g.inc k i oM a;omega)];grind
   show(zBT _ _ _ _ i j).natAbs<=_;by_cases n:i=k
   .unfold zBT
    rw[zC n,zJX];exact zF (q i a j b) (zX (by
     have:=z k d c oM;omega) oM)
   rw[E i a n j b,yN (s.E i c),qE,zP _ (2*H)];exact zLX (z k d c oM) (q i a j b) (z k d j b) (q i a c oM)
  have J:∀i,k<=i->i<r->s.E i c=0:=fun i l a=>by
   rw[f i l a c oM,g.zero i a c (by
    rcases zJ k i with h|h
    have:=g.inc k i h a;omega;obtain rfl:i=k:=by omega
    omega)]
   exact zZ _
  have u:¬ zIe r c s<r:=fun A=>by
   have M:=zDN (fun i=>decide (s.E i c≠0)) s.pv.length (r-s.pv.length);have B:=zDM (fun i=>decide (s.E i c≠0)) s.pv.length (r-s.pv.length) (by unfold zIe at A;omega);unfold zIe at A;rw[decide_eq_true_eq]at B;exact B (J _ oM A)
  refine⟨fun _ h=>absurd h u,k,?_⟩;unfold zKU;rw[zA fun h=>u h.2];exact⟨p,x,fun t o=>by have:=y t o;omega,fun t o w=>by
   rcases zJ k t with h|h
   have:=g.inc k t h w;omega;obtain rfl:t=k:=by omega
   omega,v,f,q⟩
 refine⟨fun h=>by omega,k,?_⟩;unfold zKU;rw[zA fun h=>by omega];exact⟨p,x,fun t o=>by have:=y t o;omega,fun t o w=>by omega,v,f,q⟩
theorem zRL.run{C r m H:Nat}{pc:Nat->Nat}{L:Nat->Nat->Int}(d:Ech C r pc L)(b:C<=m)(a:∀i,i<r->∀j,j<m->(L i j).natAbs<=H):∀c,c<=C->∃k,zRL C r m H c k pc L (zDH r L c)
 |0,_=>⟨0,rfl,zG _,fun t l=>by omega,fun t _ _=>zG _,rfl,fun i _ _ j _=>(jR _).symm,fun i e j f=>by rw[Nat.pow_one];exact zF (a i e j f) oM⟩
 |c+1,g=>by
  obtain⟨k,h⟩:=zRL.run d b a c oM;exact(h.step d b a oM).2
theorem zRL.ex{H:Nat}{pc:Nat->Nat}(d:Ech C r pc L)(a:C<=m)(b:∀i,i<r->∀j,j<m->(L i j).natAbs<=H):ExR r m C L:=fun c e=>by
 obtain⟨k,h⟩:=zRL.run d a b c oM;exact(h.step d a b e).1
structure zRJ(C r m H c:Nat)(pc:Nat->Nat)(h:Nat->Nat->Int)(s:BE):Prop where
 len:s.pv.length=c
 last:s.last=zKL h pc c
 pos:∀i,c<=i->i<C->∃t,t<=i/\∀j,c<=j->j<r->s.E i j=zKL h pc c*h j t
 at_:∀k,c<=k->k<r->∀j,c<=j->j<r->s.E (pc k) j=zKL h pc c*h j (pc k)
 up:∀i,i<c->∀j,c<=j->j<r->s.E i j=0
 bnd:∀i,i<C->∀j,j<m->(s.E i j).natAbs<=H*(2*H)^c
theorem zRJ.step{H c:Nat}{pc:Nat->Nat}{h L:Nat->Nat->Int}{s:BE}(g:Ech C r pc h)(hr:r<=m)(b0:r<=C)(N:∀i,i<r->∀j,j<C->(h i j).natAbs<=H)(n:zRJ C r m H c pc h s)(hc:c<r):
  ExS C m (bx s.E (zIe C c s) s.pv.length) s.pv.length c s.last/\zRJ C r m H (c+1) pc h (zKU C c s):=by
 obtain⟨v,Q,A,w,R,B⟩:=n;have S:=zMT g c oM;have a0:=g.ge c hc;have x:=g.lt c hc;have a9:=g.pos c hc;have X:zIe C c s=pc c:=by
  unfold zIe;rw[v];refine zDp a0 oM ?_ fun j a1 a8=>?_
  .rw[decide_eq_true_eq,w c (xgf _) hc c (xgf _) hc]
   exact Int.mul_ne_zero S oM
  rw[decide_eq_false_iff_not,Decidable.not_not];obtain⟨t,o,h⟩:=A j a1 oM;rw[h c (xgf _) hc,g.zero c hc t oM,zZ]
 rw[X,v];obtain⟨E,p⟩:∃E,bx s.E (pc c) c=E:=⟨_,rfl⟩;have I:E c=s.E (pc c):=by
  rw[<-p];unfold bx;by_cases e:c=pc c
  .rw[zC e,<-e]
  rw[zA e,zC rfl]
 have T:∀k,k<c->E k=s.E k:=fun k hk=>by
  rw[<-p];unfold bx;rw[zA oM,zA oM]
 have J:∀i,i≠pc c->i≠c->E i=s.E i:=fun i ha q=>by
  rw[<-p];unfold bx;rw[zA ha,zA q]
 have U:E (pc c)=s.E c:=by
  rw[<-p];unfold bx;rw[zC rfl]
 have a3:∀i,c<i->i<C->∃t,t<=i/\t<C/\∀j,c<=j->j<r->E i j=zKL h pc c*h j t:=fun i n b=>by
  by_cases e:i=pc c
  .subst e
   obtain⟨t,o,l⟩:=A c (xgf _) oM;exact⟨t,by omega,by omega,by rw[U];exact l⟩
  obtain⟨t,o,l⟩:=A i oM b;exact⟨t,o,by omega,by rw[J i e oM];exact l⟩
 have q:∀i,i<C->∀j,j<m->(E i j).natAbs<=H*(2*H)^c:=fun i b j a=>by
  by_cases e:i=pc c
  .subst e;rw[U];exact B c oM j a
  by_cases P:i=c
  .subst P;rw[I];exact B _ x j a
  rw[J i e P];exact B i b j a
 have K:E c c=zKL h pc c*h c (pc c):=by rw[I];exact w c (xgf _) hc c (xgf _) hc
 have M:∀j,c<j->j<r->E c j=0:=fun j a d=>by
  rw[I,w c (xgf _) hc j oM d,g.zero j d _ (g.inc c j a d),zZ]
 have a6:∀i,i<c->E i c=0:=fun i n=>by rw[T i n];exact R i n c (xgf _) hc
 have Y:∀i,i<C->i≠c->∃y:Int,y.natAbs<=H/\(c<i->∃t,t<=i/\y=h c t/\∀j,c<=j->j<r->E i j=zKL h pc c*h j t)/\(i<c->y=0)/\∀j,j<m->E c c*E i j-E i c*E c j=zKL h pc c*(h c (pc c)*E i j-y*E c j):=fun i b u=>by
  rcases zJ i c with W|W
  .refine⟨0,zG _,fun h=>by omega,fun _=>rfl,fun j a=>?_⟩
   rw[a6 i W,K];grind
  obtain⟨t,o,a5,l⟩:=a3 i oM b;refine⟨h c t,N c hc t a5,fun _=>⟨t,o,rfl,l⟩,fun h=>by omega,fun j a=>?_⟩;rw[l c (xgf _) hc,K];grind
 refine⟨fun i b u j a=>?_,?_⟩
 .rw[p]
  obtain⟨y,-,-,-,f⟩:=Y i b u;rw[f j a,Q];exact Int.dvd_mul_right _ _
 unfold zKU;rw[X,v,zC ⟨by omega,x⟩,p];have z:∀i,i<C->i≠c->∃y:Int,y.natAbs<=H/\(c<i->∃t,t<=i/\y=h c t/\∀j,c<=j->j<r->E i j=zKL h pc c*h j t)/\(i<c->y=0)/\∀j,j<m->zBT E c c s.last i j=h c (pc c)*E i j-y*E c j:=fun i b u=>by
  obtain⟨y,D,F,G,f⟩:=Y i b u;refine⟨y,D,F,G,fun j a=>?_⟩;unfold zBT;rw[zA u,Q];exact zPa S (f j a)
 have V:zBT E c c s.last c=E c:=by
  funext j;unfold zBT;rw[zC rfl]
 refine⟨by simp[v],?_,fun i n b=>?_,fun k hk O j a d=>?_,fun i n j a d=>?_,fun i b j a=>?_⟩;exact K
 .obtain⟨y,-,F,-,f⟩:=z i b oM
  obtain⟨t,o,b2,l⟩:=F oM;refine⟨t,o,fun j a d=>?_⟩;show zBT E c c s.last i j=zKL h pc c*h c (pc c)*h j t;rw[f j oM,M j oM d,l j oM d];grind
 .have a7:=g.inc c k oM O
  have a2:=g.lt k O;obtain⟨y,-,-,-,f⟩:=z (pc k) a2 oM;show zBT E c c s.last (pc k) j=zKL h pc c*h c (pc c)*h j (pc k);rw[f j oM,M j oM d,J (pc k) oM oM,w k oM O j oM d];grind
 .show zBT E c c s.last i j=0
  by_cases e:i=c
  .subst e;rw[V];exact M j oM d
  obtain⟨y,-,-,G,f⟩:=z i oM e;rw[f j oM,G oM,T i oM,R i oM j oM d];grind
 show(zBT E c c s.last i j).natAbs<=_;have Z:1<=2*H:=by have:=N c hc (pc c) x;omega
 have a4:H*(2*H)^c<=H*(2*H)^(c+1):=qA _ (zX Z oM);by_cases e:i=c
 .subst e;rw[V];exact zF (q i b j a) a4
 obtain⟨y,D,-,-,f⟩:=z i b e;rw[f j a];refine zF (zLX (N c hc (pc c) x) (q i b j a) D (q c oM j a)) ?_;rw[qE,<-zN,zP (2*H)];exact zBo (by grind)
theorem zRJ.run{C r m H:Nat}{pc:Nat->Nat}{h L:Nat->Nat->Int}(e:Ech C r pc h)(l:r<=m)(n:r<=C)(g:∀i,i<r->∀j,j<C->(h i j).natAbs<=H)(d:∀i,i<C->∀j,j<r->L i j=h j i)(f:∀i,i<C->∀j,j<m->(L i j).natAbs<=H):∀c,c<=r->zRJ C r m H c pc h (zDH C L c)
 |0,_=>⟨rfl,rfl,fun i _ b=>⟨i,xgf _,fun j _ a=>by show L i j=1*h j i;rw[d i b j a,jR]⟩,fun k _ o j _ a=>by show L (pc k) j=1*h j (pc k);rw[d _ (e.lt k o) j a,jR],fun i b=>by omega,fun i b j a=>by rw[zBq,zAp];exact f i b j a⟩
 |c+1,p=>((zRJ.run e l n g d f c oM).step (L:=L) e l n g oM).2
theorem zRJ.ex{H:Nat}{pc:Nat->Nat}{h:Nat->Nat->Int}(a:Ech C r pc h)(d:r<=m)(e:r<=C)(b:∀i,i<r->∀j,j<C->(h i j).natAbs<=H)(f:∀i,i<C->∀j,j<r->L i j=h j i)(g:∀i,i<C->∀j,j<m->(L i j).natAbs<=H):ExR C m r L:=fun c k _ _=>
 ((zRJ.run a d e b f g c oM).step (L:=L) a d e b k).1
def eqL(R:Nat)(A:Nat->Nat->Int)(b:Nat->Int):Nat->Nat->Int:=fun j i=>if i<R then A i j else if i=R then b j else if i=R+1+j then 1 else 0
theorem zPc(h:i<R):eqL R A b j i=A i j:=zC h
theorem zVU:eqL R A b j R=b j:=by unfold eqL;rw[zA oM,zC rfl]
theorem zVV:eqL R A b j (R+1+t)=if t=j then 1 else 0:=by
 unfold eqL;rw[zA oM,zA oM];by_cases e:t=j
 .subst e;rw[zC rfl,zC rfl]
 rw[zA e,zA oM]
theorem zKi{H:Nat}(c:∀i,i<R->∀j,j<C->(A i j).natAbs<=H)(d:∀j,j<C->(b j).natAbs<=H)(e:1<=H):∀j,j<C->∀i,i<R+1+C->(eqL R A b j i).natAbs<=H:=fun j a i _=>by
 unfold eqL;split;exact c i (by assumption) j a;split;exact d j a;split<;>simp<;>omega
def yT(R:Nat)(L:Nat->Nat->Int)(j0:Nat):Nat->Rat:=fun p=>if p=j0 then 1 else if R+1<=p then-(L (p-(R+1)) j0:Rat)else 0
theorem zTZ(d:j0<=R):zAw (R+1+C) (fun p=>(f p:Rat)*yT R L j0 p)=f j0-zAw C fun t=>(f (R+1+t):Rat)*L t j0:=by
 rw[zHj,zDa (k:=j0) oM fun i c b=>by unfold yT;rw[zA b,zA oM];grind];have a:zAw C (fun i=>(f (R+1+i):Rat)*yT R L j0 (R+1+i))=zAw C fun t=>(-1:Rat)*((f (R+1+t):Rat)*L t j0):=qD fun t e=>by
  unfold yT;rw[zA oM,zC oM,show R+1+t-(R+1)=t by omega];grind
 rw[a,zA4];unfold yT;rw[zC rfl];grind
theorem zVW(c:j0<=R):Sol C (R+1+C) (eqL R A b) (yT R (eqL R A b) j0):=fun i a=>by
 rw[zTZ c,zDa (k:=i) a fun t e d=>by
  rw[zVV,zA d];exact(congrArg (· *_) Rat.intCast_zero).trans (Rat.zero_mul _)]
 rw[zVV,zC rfl];grind
theorem zXY{s:BE}(j:zO6 C (R+1+C) R (eqL R A b) s)(n:s.pv.length<=i)(d:i<C)(o:s.E i R≠0):
  (∀a,a<R->zAw C (fun t=>(A a t:Rat)*((s.E i (R+1+t):Rat)/s.E i R))=0)/\zAw C (fun t=>(b t:Rat)*((s.E i (R+1+t):Rat)/s.E i R))=1:=by
 have f:∀j0,j0<=R->(s.E i j0:Rat)=zAw C fun t=>(s.E i (R+1+t):Rat)*eqL R A b t j0:=fun j0 l=>by
  have:=(j.sol _).2 (zVW l) i d;rw[zTZ l]at this;grind
 have p:(s.E i R:Rat)≠0:=fun e=>o (Rat.intCast_eq_zero_iff.1 e)
 have h:∀g:Nat->Int,zAw C (fun t=>(g t:Rat)*((s.E i (R+1+t):Rat)/s.E i R))=(1/(s.E i R:Rat))*zAw C fun t=>(s.E i (R+1+t):Rat)*g t:=fun g=>by
  rw[<-zA4];exact qD fun t m=>by grind
 refine⟨fun a k=>?_,?_⟩
 .have c:=f a oM
  rw[j.low i n d a k,qD (g:=fun t=>(s.E i (R+1+t):Rat)*A a t) fun t m=>by rw[zPc k]]at c;rw[h,<-c];show _*(0:Rat)=0;grind
 have c:=f R (xgf _);rw[qD (g:=fun t=>(s.E i (R+1+t):Rat)*b t) fun t m=>by rw[zVU]]at c;rw[h,<-c];grind
def zIk(s:BE)(R:Nat):Nat->Nat->Rat
 |0=>fun _=>0
 |k+1=>fun i=>if s.pv[k]?=some i then(s.E k R:Rat)/s.E k i else zIk s R k i
theorem zQs{n m c R:Nat}{L:Nat->Nat->Int}{s:BE}(a:zO6 n m c L s){k t:Nat}(b:s.pv[k]?=some t):∀l,k<l->l<=s.pv.length->zIk s R l t=(s.E k R:Rat)/s.E k t
 |0,h,_=>by omega
 |l+1,h,g=>by
  show(if s.pv[l]?=some t then _ else _)=_;by_cases e:l=k
  .subst e;rw[zC b]
  rw[zA fun d=>?_,zQs a b l oM oM];have f:=(a.piv l t d).1;exact f ((a.piv k t b).2 l (zI (by omega:l<s.pv.length) a.len) e)
theorem zNg{s:BE}{R i:Nat}(h:∀k:Nat,s.pv[k]?≠some i):∀l,zIk s R l i=0
 |0=>rfl
 |l+1=>by
  show(if s.pv[l]?=some i then _ else _)=_;rw[zA (h l),zNg h l]
theorem zW6{s:BE}(d:zO6 C (R+1+C) R (eqL R A b) s)(x:∀i,s.pv.length<=i->i<C->s.E i R=0):
  ∀j,j<C->zAw R (fun i=>(A i j:Rat)*zIk s R s.pv.length i)=b j:=fun j u=>by
 have hcut:∀f:Nat->Int,zAw (R+1+C) (fun p=>(f p:Rat)*(if p<R then zIk s R s.pv.length p else if p=R then-1 else 0))=zAw R (fun p=>(f p:Rat)*zIk s R s.pv.length p)-f R:=fun f=>by
  rw[zHj,zC5 (n:=C) fun i a=>by rw[zA oM,zA oM];grind];show zAw R _+_+0=_;rw[qD (n:=R) (g:=fun p=>(f p:Rat)*zIk s R s.pv.length p) fun i a=>by rw[zC a]];dsimp only;rw[zA oM,zC rfl];grind
 have r:Sol C (R+1+C) s.E fun p=>if p<R then zIk s R s.pv.length p else if p=R then-1 else 0:=fun i a=>by
  rw[hcut];rcases zJ i s.pv.length with h|h
  .obtain⟨t,c⟩:∃t,s.pv[i]?=some t:=⟨_,xga h⟩
   have w:=d.lt i t c;have y:(s.E i t:Rat)≠0:=fun e=>(d.piv i t c).1 (Rat.intCast_eq_zero_iff.1 e)
   rw[zDa (k:=t) w fun p m v=>?_,zQs d c _ h (xgf _)];grind;by_cases e:∃k:Nat,s.pv[k]?=some p
   .obtain⟨k,l⟩:=e
    rw[(d.piv k p l).2 i a fun o=>by subst o;rw[l]at c;injection c with c;exact v c];exact(congrArg (· *_) Rat.intCast_zero).trans (Rat.zero_mul _)
   rw[zNg fun k l=>e ⟨k,l⟩];exact Rat.mul_zero _
  rw[x i h a,zC5 fun p m=>by rw[d.low i h a p m];exact(congrArg (· *_) Rat.intCast_zero).trans (Rat.zero_mul _)];rw[Rat.intCast_zero];grind
 have q:=(d.sol _).1 r j u;rw[hcut,zVU,qD (g:=fun p=>(A p j:Rat)*zIk s R s.pv.length p) fun i a=>by rw[zPc a]]at q;grind
def Bst.mix(x:Bst)(i j:Nat)(a b c d:Int):Bst:=⟨zAQ x.s i j a b c d,zAQ x.t i j a b c d,zAQ x.i i j d (-c) (-b) a⟩
theorem zIr(F:Nat->Nat->Int)(n:i≠j)(a b c d q:Int):
  zDX (zDT (zJO (zAQ F i j (-c) (-d) (a-q*c) (b-q*d)) i j) j) i j q=zAQ F i j a b c d:=by
 funext r t
 have o:j≠i:=zL n;have u:swp i j i=j:=by unfold swp;rw[zC rfl]
 have v:swp i j j=i:=by unfold swp;rw[zA o,zC rfl]
 have l:∀p e f g,zAQ F i j p e f g i t=p*F i t+e*F j t:=fun p e f g=>by unfold zAQ;rw[zC rfl]
 have m:∀p e f g,zAQ F i j p e f g j t=f*F i t+g*F j t:=fun p e f g=>by unfold zAQ;rw[zA o,zC rfl]
 have w:zDT (zJO (zAQ F i j (-c) (-d) (a-q*c) (b-q*d)) i j) j i t=(a-q*c)*F i t+(b-q*d)*F j t:=by
  unfold zDT zJO;rw[zA n,u,m]
 have s:zDT (zJO (zAQ F i j (-c) (-d) (a-q*c) (b-q*d)) i j) j j t=-((-c)*F i t+(-d)*F j t):=by
  unfold zDT zJO;rw[zC rfl,v,l]
 by_cases h:r=i
 .subst h
  rw[l];unfold zDX;rw[zC rfl,w,s];simp only[Int.sub_mul,Int.neg_mul,Int.mul_add,Int.mul_neg,Int.neg_add,Int.neg_neg,<-Int.mul_assoc];omega
 unfold zDX;rw[zA h];by_cases k:r=j
 .subst k
  rw[s,m];simp only[Int.neg_mul,Int.neg_add,Int.neg_neg]
 unfold zDT zJO zAQ swp;rw[zA k,zA h,zA k,zA h,zA k,zA h,zA k]
theorem zLw(F:Nat->Nat->Int)(n:i≠j)(a b c d q:Int):
  zDX (zDT (zJO (zAQ F i j (b-q*d) (-(a-q*c)) d (-c)) i j) j) j i (-q)=zAQ F i j d (-c) (-b) a:=by
 funext r t
 have o:j≠i:=zL n;have u:swp i j i=j:=by unfold swp;rw[zC rfl]
 have v:swp i j j=i:=by unfold swp;rw[zA o,zC rfl]
 have l:∀p f g h,zAQ F i j p f g h i t=p*F i t+f*F j t:=fun p f g h=>by unfold zAQ;rw[zC rfl]
 have m:∀p f g h,zAQ F i j p f g h j t=g*F i t+h*F j t:=fun p f g h=>by unfold zAQ;rw[zA o,zC rfl]
 have s:zDT (zJO (zAQ F i j (b-q*d) (-(a-q*c)) d (-c)) i j) j i t=d*F i t+(-c)*F j t:=by
  unfold zDT zJO;rw[zA n,u,m]
 have w:zDT (zJO (zAQ F i j (b-q*d) (-(a-q*c)) d (-c)) i j) j j t=-((b-q*d)*F i t+(-(a-q*c))*F j t):=by
  unfold zDT zJO;rw[zC rfl,v,l]
 by_cases e:r=j
 .subst e
  rw[m];unfold zDX;rw[zC rfl,s,w];simp only[Int.sub_mul,Int.neg_mul,Int.mul_add,Int.mul_neg,Int.neg_add,Int.neg_neg,Int.neg_sub,<-Int.mul_assoc];omega
 unfold zDX;rw[zA e];by_cases k:r=i
 .subst k
  rw[s,l]
 unfold zDT zJO zAQ swp;rw[zA e,zA k,zA e,zA k,zA e,zA k,zA e]
theorem zM7(F:Nat->Nat->Int)(d:i≠j)(b:Int):zDX F i j b=zAQ F i j 1 b 0 1:=by
 funext r t
 unfold zDX zAQ;by_cases a:r=i
 .rw[zC a,zC a,jR]
 rw[zA a,zA a];by_cases c:r=j
 .rw[zC c,c];omega
 rw[zA c]
theorem zPH(F:Nat->Nat->Int)(d:i≠j)(b:Int):zDX F j i (-b)=zAQ F i j 1 (-0) (-b) 1:=by
 funext r t
 unfold zDX zAQ;by_cases a:r=j
 .subst a
  rw[zC rfl,zA (zL d),zC rfl];omega
 rw[zA a];by_cases c:r=i
 .rw[zC c,c];omega
 rw[zA c,zA a]
theorem zKV(F:Nat->Nat->Int)(d:i≠j)(b:Int):zDX (zDT (zDT F i) j) i j (-b)=zAQ F i j (-1) b 0 (-1):=by
 funext r t
 have e:=zL d;unfold zDX zDT zAQ;by_cases a:r=i
 .subst a
  rw[zC rfl,zA d,zC rfl,zC rfl,zA e,zC rfl,yQ,zB9,zD0,yQ,jR]
 rw[zA a,zA a];by_cases c:r=j
 .subst c
  rw[zC rfl,zA e,zC rfl];omega
 rw[zA c,zA a,zA c]
theorem zNq(F:Nat->Nat->Int)(d:i≠j)(b:Int):zDX (zDT (zDT F i) j) j i (-(-b))=zAQ F i j (-1) (-0) (-b) (-1):=by
 funext r t
 have e:=zL d;unfold zDX zDT zAQ;by_cases a:r=j
 .subst a
  rw[zC rfl,zC rfl,zA e,zA d,zC rfl,zA e,zC rfl,zD0,zB9,yQ,yQ,jR];omega
 rw[zA a,zA a];by_cases c:r=i
 .subst c
  rw[zC rfl,zC rfl];omega
 rw[zA c,zA c,zA a]
theorem zUS(h:i<n)(g:j<n)(f:i≠j):∀(m:Nat) (a b c d:Int),c.natAbs=m->a*d-b*c=1->∃l,zA2 n l/\∀x:Bst,x.mix i j a b c d=zDv l x:=by
 intro m;induction m using Nat.strongRecOn with
 | ind m z=>
  intro a b c d D u;by_cases p:c=0
  .subst p
   have t:a*d=1:=by rw[zZ]at u;omega
   have C:a.natAbs=1:=by
    have k:=congrArg Int.natAbs t;rw[qT]at k;exact Nat.eq_one_of_mul_eq_one_right k
   have y:(a=1/\d=1)∨(a=-1/\d=-1):=by
    rcases(by omega:a=1∨a=-1)with e|e
    subst e;exact .inl ⟨rfl,oM⟩;subst e;exact .inr ⟨rfl,oM⟩
   rcases y with⟨rfl,rfl⟩|⟨rfl,rfl⟩
   .refine⟨[.add i j b],zA2.cons ⟨h,g,f⟩ zA2.nil,fun x=>?_⟩
    show(⟨_,_,_⟩:Bst)=⟨zDX x.s i j b,zDX x.t i j b,zDX x.i j i (-b)⟩;rw[zM7 x.s f,zM7 x.t f,zPH x.i f]
   refine⟨[.neg i,.neg j,.add i j (-b)],zA2.cons h (zA2.cons g (zA2.cons ⟨h,g,f⟩ zA2.nil)),fun x=>?_⟩;show(⟨_,_,_⟩:Bst)=⟨zDX (zDT (zDT x.s i) j) i j (-b),zDX (zDT (zDT x.t i) j) i j (-b),zDX (zDT (zDT x.i i) j) j i (-(-b))⟩;rw[zKV x.s f,zKV x.t f,zNq x.i f]
  have k:a-a/c*c=a%c:=by have:=Int.emod_add_mul_ediv a c;rw[yN]at this;omega
  have A:=zAr a p;have B:=Int.emod_lt a p;obtain⟨q,w⟩:∃q,a/c=q:=⟨_,rfl⟩;rw[w]at k;have hd:-c*(b-q*d)- -d*(a-q*c)=1:=by
   have r:-c*(b-q*d)=-(b*c)+q*c*d:=by rw[Int.mul_sub,yQ,yQ,yN c b,<-zBD,yN c q];omega
   have s:-d*(a-q*c)=-(a*d)+q*c*d:=by rw[Int.mul_sub,yQ,yQ,yN d a,yN d (q*c)];omega
   rw[r,s];omega
  obtain⟨l,v,e⟩:=z (a-q*c).natAbs oM (-c) (-d) (a-q*c) (b-q*d) rfl hd;refine⟨l++ [.swap i j,.neg j,.add i j q],v.app (zA2.cons (o:=.swap i j) ⟨h,g⟩ (zA2.cons (o:=.neg j) g (zA2.cons (o:=.add i j q) ⟨h,g,f⟩ zA2.nil))),fun x=>?_⟩;rw[zHd,<-e x];show(⟨_,_,_⟩:Bst)=⟨zDX (zDT (zJO (zAQ x.s i j (-c) (-d) (a-q*c) (b-q*d)) i j) j) i j q,zDX (zDT (zJO (zAQ x.t i j (-c) (-d) (a-q*c) (b-q*d)) i j) j) i j q,zDX (zDT (zJO (zAQ x.i i j (b-q*d) (-(a-q*c)) (-(-d)) (-c)) i j) j) j i (-q)⟩;rw[zIr x.s f,zIr x.t f,zD0,zLw x.i f]
def zDd(e:Bool)(Z:Nat->Prop)(w:World)(bw:Nat)(Ah:Value)(n Cs Ct:Nat)(x:Bst):Prop:=
 if e=true then ∃Au Av bss bst bsi,Blk w bw tHW #[Ah,Au,Av]/\zHO w Ah Au Av n Cs Ct bss bst bsi x.s x.t x.i/\∀b,b∈bss∨b∈bst∨b∈bsi->Z b
 else Ct=0/\∃Au Av bss,Blk w bw tHW #[Ah,Au,Av]/\Wri w Ah n Cs bss x.s/\zET w Au n/\zET w Av n/\∀b,b∈bss->Z b
theorem zHO.I{w w':World}{c d b:Value}{Cs Ct:Nat}{f g e:List Nat}{S T I:Nat->Nat->Int}(h:zHO w c d b n Cs Ct f g e S T I)(a:BWq w w'):zHO w' c d b n Cs Ct f g e S T I:=
 ⟨h.s.I a,h.t.I a,h.i.I a,h.st,h.si,h.ti,h.ast,h.asi,h.ati⟩
section
variable {e:Bool} {Z:Nat->Prop} {w w':World} {bw:Nat} {Ah:Value} {n Cs Ct:Nat} {x:Bst}
theorem zDd.I(h:zDd e Z w bw Ah n Cs Ct x)(a:BWq w w'):zDd e Z w' bw Ah n Cs Ct x:=by
 unfold zDd at h ⊢
 split at h
 .rename_i j
  rw[zC j];obtain⟨b,c,d,k,l,f,g,i⟩:=h;exact⟨b,c,d,k,l,f.I a,g.I a,i⟩
 rename_i j;rw[zA j];obtain⟨m,b,c,d,f,g,i,o,p⟩:=h;exact⟨m,b,c,d,f.I a,g.I a,i.I a,o.I a,p⟩
theorem zDd.wri(h:zDd e Z w bw Ah n Cs Ct x):∃d,Wri w Ah n Cs d x.s/\∀b,b∈d->Z b:=by
 unfold zDd at h;split at h
 .obtain⟨g,i,a,m,o,j,c,f⟩:=h
  exact⟨a,c.s,fun b l=>f b (.inl l)⟩
 obtain⟨p,g,i,a,j,c,f,q,k⟩:=h;exact⟨a,c,k⟩
theorem zDd.blk(h:zDd e Z w bw Ah n Cs Ct x):∃a b,Blk w bw tHW #[Ah,a,b]:=by
 unfold zDd at h;split at h
 .obtain⟨a,b,d,f,g,c,-⟩:=h
  exact⟨a,b,c⟩
 obtain⟨i,a,b,d,c,-⟩:=h;exact⟨a,b,c⟩
theorem jB.widen{Z Z':Nat->Prop}(h:jB Z w w')(b:∀k,Z k->Z' k):jB Z' w w':=h.mono fun k _ a=>b k a
theorem zWv(a:BSm B){o:Value}{k:Int}(h:zDd e Z w bw Ah n Cs Ct x)(U:okB B n Cs Ct x)(g:i<n)(l:j<n)(J:i≠j)(K:yA w o k)
  (L:n<=1000000) (H:Cs<=1000000) (S:Ct<=1000000) (T:zGu B n Cs Ct x i j k):
  CPq 106 #[ptq bw 0,niq i,niq j,o] w fun r w'=>(∃u,r= .returned u)/\jB Z w w'/\zDd e Z w' bw Ah n Cs Ct (x.add i j k):=by
 obtain⟨C,P,D,X⟩:=T;obtain⟨M,N,O⟩:=U;have I:zO3 Cs x.s i j k:=fun t b=>⟨a.sm _ (M i g t b),a.sm _ (M j l t b),a.sm _ (P t b)⟩
 unfold zDd at h ⊢
 split at h
 .rename_i s
  obtain⟨c,d,f,E,F,p,q,m⟩:=h;refine(zS5 bw Ah c d n Cs Ct i j f E F x.s x.t x.i o k w p q g l J K L H S I (fun t b=>⟨a.sm _ (N i g t b),a.sm _ (N j l t b),a.sm _ (D t b).1⟩)
   (fun t b=>⟨a.sm _ (O j l t b),a.sm _ (O i g t b),a.sm _ (by rw[yQ,qO];exact(D t b).2)⟩) (a.sm _ C)).mono ?_
  rintro r w' ⟨v,y,z,A⟩;rw[zC s];exact⟨v,y.widen m,c,d,f,E,F,z,A,m⟩
 rename_i s;obtain⟨Q,c,d,f,p,q,m,R,G⟩:=h;refine(zRA bw Ah c d n Cs i j f x.s o k w p q m R g l J K L H I (a.sm _ C)).mono ?_;rintro r w' ⟨v,y,z,A,V,W⟩;rw[zA s];exact⟨v,y.widen G,Q,c,d,f,z,A,V,W,G⟩
theorem zW0(l:BSm B)(h:zDd e Z w bw Ah n Cs Ct x)(J:okB B n Cs Ct x)(D:i<n)(E:n<=1000000)(C:Cs<=1000000)(I:Ct<=1000000):
  CPq 108 #[ptq bw 0,niq i] w fun r w'=>(∃u,r= .returned u)/\jB Z w w'/\zDd e Z w' bw Ah n Cs Ct (x.neg i):=by
 obtain⟨F,M,N⟩:=J;unfold zDd at h ⊢
 split at h
 .rename_i p
  obtain⟨f,g,j,y,z,m,o,k⟩:=h;refine(zS7 bw Ah f g n Cs Ct i j y z x.s x.t x.i w m o D E C I (fun a c b d=>l.sm _ (F a c b d)) (fun a c b d=>l.sm _ (M a c b d)) (fun a c b d=>l.sm _ (N a c b d))).mono ?_;rintro r w' ⟨q,s,t,v⟩;rw[zC p];exact⟨q,s.widen k,f,g,j,y,z,t,v,k⟩
 rename_i p;obtain⟨G,f,g,j,m,o,k,H,A⟩:=h;refine(zRC bw Ah f g n Cs i j x.s w m o k H D E C (fun a c b d=>l.sm _ (F a c b d))).mono ?_;rintro r w' ⟨q,s,t,v,K,L⟩;rw[zA p];exact⟨q,s.widen A,G,f,g,j,t,v,K,L,A⟩
structure zQD(B n Cs Ct:Nat)(x:Bst)(i j:Nat)(a b c d:Int):Prop where
 kk:a.natAbs<B/\b.natAbs<B/\c.natAbs<B/\d.natAbs<B
 ss:∀t,t<Cs->(a*x.s i t).natAbs<B/\(b*x.s j t).natAbs<B/\(c*x.s i t).natAbs<B/\(d*x.s j t).natAbs<B
 tt:∀t,t<Ct->(a*x.t i t).natAbs<B/\(b*x.t j t).natAbs<B/\(c*x.t i t).natAbs<B/\(d*x.t j t).natAbs<B
 ii:∀t,t<Ct->(d*x.i i t).natAbs<B/\(c*x.i j t).natAbs<B/\(b*x.i i t).natAbs<B/\(a*x.i j t).natAbs<B
 oo:okB B n Cs Ct (x.mix i j a b c d)
theorem zXV(f:BSm B){A:Value}{b c d:Int}(h:zDd e Z w bw Ah n Cs Ct x)(a6:okB B n Cs Ct x)(o:i<n)(p:j<n)(O:i≠j)(P:M4V w A a b c d)
  (Q:n<=1000000) (M:Cs<=1000000) (a5:Ct<=1000000) (ha:zQD B n Cs Ct x i j a b c d):
  CPq 107 #[ptq bw 0,niq i,niq j,A] w fun r w'=>(∃u,r= .returned u)/\jB Z w w'/\zDd e Z w' bw Ah n Cs Ct (x.mix i j a b c d):=by
 obtain⟨⟨U,V,W,X⟩,Y,a0,ai,ao⟩:=ha;obtain⟨R,S,T⟩:=a6;have hK:Sm a/\Sm b/\Sm c/\Sm d:=⟨f.sm _ U,f.sm _ V,f.sm _ W,f.sm _ X⟩;have N:zTb Cs (x.s i) (x.s j) a b c d:=fun t g=>by
  obtain⟨q,s,v,y⟩:=Y t g;exact⟨f.sm _ (R i o t g),f.sm _ (R j p t g),f.sm _ q,f.sm _ s,f.sm _ v,f.sm _ y⟩
 unfold zDd at h ⊢
 split at h
 .rename_i E
  obtain⟨k,l,m,J,K,C,D,z⟩:=h;refine(zS6 bw Ah k l A n Cs Ct i j m J K x.s x.t x.i a b c d w C D o p O P Q M a5 N (fun t g=>by
   obtain⟨q,s,v,y⟩:=a0 t g;exact⟨f.sm _ (S i o t g),f.sm _ (S j p t g),f.sm _ q,f.sm _ s,f.sm _ v,f.sm _ y⟩) (fun t g=>by
   obtain⟨q,s,v,y⟩:=ai t g;exact⟨f.sm _ (T i o t g),f.sm _ (T j p t g),f.sm _ q,f.sm _ (by rw[yQ,qO];exact s),f.sm _ (by rw[yQ,qO];exact v),f.sm _ y⟩) hK).mono ?_
  rintro r w' ⟨F,G,H,I⟩;rw[zC E];exact⟨F,G.widen z,k,l,m,J,K,H,I,z⟩
 rename_i E;obtain⟨h0,k,l,m,C,D,z,h4,L⟩:=h;refine(zRB bw Ah k l A n Cs i j m x.s a b c d w C D z h4 o p O P Q M N hK).mono ?_;rintro r w' ⟨F,G,H,I,k4,k5⟩;rw[zA E];exact⟨F,G.widen L,h0,k,l,m,H,I,k4,k5,L⟩
end
def zDw(bw:Nat):Array Value:=#[.func (.func 106) #[ptq bw 0] #[],.func (.func 107) #[ptq bw 0] #[],.func (.func 108) #[ptq bw 0] #[]]
inductive zNo (x:Bst) (r m c:Nat):Bst->Prop
 |add:x.s m c%x.s r c=0->zNo x r m c (x.add m r (-(x.s m c/x.s r c)))
 |mix (s t:Int):¬ x.s m c%x.s r c=0->Bez (x.s r c) (x.s m c) s t->zNo x r m c (x.mix r m s t (-(x.s m c/((Int.gcd (x.s r c) (x.s m c):Nat):Int))) (x.s r c/((Int.gcd (x.s r c) (x.s m c):Nat):Int)))
theorem zRe(h:∃t,t<r/\x t≠0):∃t,t<r/\x t≠0/\∀s,s<t->x s=0:=by
 obtain⟨t,b⟩:=h;induction t using Nat.strongRecOn with
 | ind t g=>
  by_cases a:∃s,s<t/\x s≠0
  .obtain⟨s,c,d⟩:=a
   exact g s c ⟨oM,d⟩
  exact⟨t,b.1,b.2,fun s f=>jU fun e=>a ⟨s,f,e⟩⟩
theorem zTt(a:Ech C r c H)(d:t<r)(e:∀s,s<t->x s=0):(yZ r fun s=>x s*H s (c t))=x t*H t (c t):=
 zCF d fun s b f=>by
  rcases zJ s t with h|h
  rw[e s h,zAM];rw[a.zero s b _ (a.inc t s oM b),zZ]
def zVI(n C:Nat)(H G:Nat->Nat->Int):Prop:=∃X:Nat->Nat->Int,∀a,a<n->∀b,b<C->G a b=yZ n fun t=>X a t*H t b
theorem zL1{R:Nat}{F:Nat->Nat->Int}{c:Nat->Int}{v:Nat->Nat->Int}(h:i<k):
  det k (zDS F i fun a=>yZ R fun t=>c t*v a t)=yZ R fun t=>c t*det k (zDS F i fun a=>v a t):=by
 have:=zFt (k:=k) (R:=R) (F:=trp F) (i:=i) (c:=c) (v:=fun t a=>v a t) h;rw[<-zD1]at this;refine this.trans (yF fun t b=>?_);rw[<-zD1];rfl
theorem zTv(k:Nat):det k idf=1:=by
 rw[zGD (fun a _ b _ h=>by unfold idf;rw[zA oM])];induction k with
 |zero=>rfl
 |succ k c=>unfold zBd;rw[c];simp[idf]
theorem zUA(a:k<=4):zL9 k<=24:=by
 have:∀k,k<=4->zL9 k<=24:=by decide
 exact this k a
theorem zTH(c:k<=4)(d:1<=h)(hF:∀a,a<k->∀b,b<k->(F a b).natAbs<=h):(det k F).natAbs<=24*h^4:=
 zF (zNx hF) (qP (zUA c) (zUM d c))
theorem zRY{P V:Nat->Nat->Int}(h:∀a,a<r->∀b,b<r->yZ R (fun t=>P a t*V t b)=idf a b):∃σ:Nat->Nat,(∀a,a<r->σ a<R)/\det r (fun a b=>V (σ a) b)≠0:=by
 refine jU fun e=>?_
 have c:(0:Int)∣det r fun a b=>yZ R fun t=>P a t*V t b:=zEx fun σ f=>by
  have:det r (fun a b=>V (σ a) b)=0:=jU fun d=>e ⟨σ,f,d⟩
  rw[this];exact zCq 0
 rw[zCu (G:=idf) h,zTv]at c;have:=Int.zero_dvd.1 c;omega
theorem zN4{σ:Nat->Nat}(Q:r<=4)(Z:1<=h)(k:Ech C r c H)(S:zLt (fun _ _=>True) r c H)(D:leM h R C A)(G:∀a,a<R->∀b,b<C->A a b=yZ r fun t=>X t a*H t b)
  (u:∀a,a<r->σ a<R) (a0:det r (fun a b=>X b (σ a))≠0):leM (24*(8*h)^4) r C H:=by
 have O:∀j,j<r->∀t,j<t->t<r->H t (c j)=0:=fun j g t h2 o=>k.zero t o _ (k.inc j t h2 o)
 have M:∀j,j<r->∀a,a<R->(X j a).natAbs<=h*2^j:=by
  intro j;induction j using Nat.strongRecOn with
  | ind j V=>
   intro g a f;have e:=G a f (c j) (k.lt j g);have hp:=k.pos j g;rw[zHi (n:=j+1) oM (fun t h2 o=>by rw[O j g t oM o,zZ])]at e;have T:yZ (j+1) (fun t=>X t a*H t (c j))=yZ j (fun t=>X t a*H t (c j))+X j a*H j (c j):=rfl;rw[T]at e;obtain⟨p,P⟩:∃p:Nat,H j (c j)=(p:Int):=⟨(H j (c j)).toNat,oM⟩;have U:∀m,m<=j->(yZ m (fun t=>X t a*H t (c j))).natAbs<=(h*2^m-h)*p:=by
    intro m;induction m with
    |zero=>intro _;simp[yZ]
    | succ m W=>
     intro hm;have y:=W oM;have l:=V m oM oM a f;have q:=S m j oM g trivial;have z:(H m (c j)).natAbs<=p:=oM;have L:(X m a*H m (c j)).natAbs<=h*2^m*p:=by rw[qT];exact qP l z
     have B:(yZ (m+1) (fun t=>X t a*H t (c j))).natAbs<=(yZ m (fun t=>X t a*H t (c j))).natAbs+(X m a*H m (c j)).natAbs:=by
      show(yZ m (fun t=>X t a*H t (c j))+X m a*H m (c j)).natAbs<=_;omega
     have Y:(h*2^m-h)*p+h*2^m*p=(h*2^(m+1)-h)*p:=by
      rw[<-zS];congr 1;have:h<=h*2^m:=qJ _ (jH oM);rw[qE,<-zN];omega
     omega
   have y:=U j (xgf _);have l:=D a f (c j) (k.lt j g);have q:(X j a*H j (c j)).natAbs<=h+(h*2^j-h)*p:=oM;rw[qT,P,zQ]at q;have z:h<=h*p:=qJ _ oM;have L:h*p+(h*2^j-h)*p=h*2^j*p:=by
    rw[<-zS];congr 1;have:h<=h*2^j:=qJ _ (jH oM);omega
   have B:(X j a).natAbs*p<=h*2^j*p:=oM;exact Nat.le_of_mul_le_mul_right B oM
 have N:∀j,j<r->∀a,a<R->(X j a).natAbs<=8*h:=fun j g a f=>by
  have y:=M j g a f;have l:2^j<=2^3:=zX oM oM;have q:h*2^j<=h*2^3:=qA _ l;omega
 intro i s b E;have J:det r (zDS (fun a b=>X b (σ a)) i fun a=>A (σ a) b)=H i b*det r (fun a b=>X b (σ a)):=by
  have K:det r (zDS (fun a b=>X b (σ a)) i fun a=>A (σ a) b)=det r (zDS (fun a b=>X b (σ a)) i fun a=>yZ r fun t=>H t b*X t (σ a)):=zCu fun a f w F=>by
   unfold zDS;split
   .dsimp only
    rw[G _ (u a f) b E];exact yF fun t I=>yN _ _
   rfl
  rw[K,zL1 (v:=fun a t=>X t (σ a)) s,zCF (c:=i) s];rw[zIW (fun a b=>X b (σ a)) i];intro t I a1;have:det r (zDS (fun a b=>X b (σ a)) i fun a=>X t (σ a))=0:=by
   rcases zJ t i with h2|h2
   exact zGk h2 s fun a=>by unfold zDS;rw[zC rfl,zA oM]
   exact zGk (c:=i) (d:=t) oM I fun a=>by unfold zDS;rw[zC rfl,zA oM]
  rw[this,zZ]
 have x:(det r (zDS (fun a b=>X b (σ a)) i fun a=>A (σ a) b)).natAbs<=24*(8*h)^4:=zTH Q oM fun a f w F=>by
  unfold zDS;split
  .have:=D _ (u a f) b E
   dsimp only;omega
  exact N w F _ (u a f)
 rw[J,qT]at x;exact zF (qJ _ oM) x
theorem zPs{U:Nat->Nat->Int}(n:R<=4)(j:1<=h)(d:Hnf C R r c H)(m:leM h R C A)(o:∀a,a<R->∀b,b<C->A a b=yZ R fun t=>X t a*H t b)
  (s:∀a,a<R->∀b,b<R->dot R U X a b=idf a b):leM (24*(8*h)^4) R C H:=by
 obtain⟨v,u,p⟩:=zRY (r:=r) (R:=R) (P:=U) (V:=fun t b=>X b t) (fun a f b e=>s a (by have:=d.le;omega) b (by have:=d.le;omega));have e:=zN4 (zF d.le n) j d.ech d.red m (fun a f b e=>by
  rw[o a f b e];exact zHi d.le fun t k l=>by rw[d.zero t k l b e,zZ]) u p
 intro i q b g;rcases zJ i r with hir|hir
 exact e i hir b g;rw[d.zero i hir q b g];exact zG _
theorem zI2{e:Nat}{σ:Nat->Nat}(i:Hnf m n r c H)(w:∀a,a<n->∀b,b<m->F a b=yZ n fun t=>X t a*H t b)(x:∀a,a<n->∀b,e<=b->b<m->H a b=0)(E:e<=m)
  (B:∀a,a<e->σ a<n) (y:det e (fun a b=>F (σ a) b)≠0):r=e/\∀k,k<r->c k=k:=by
 have p:∀k,k<r->c k<e:=fun k f=>by
  rcases zJ (c k) e with h|h
  exact h;have g:=x k (by have:=i.le;omega) (c k) h (i.ech.lt k f);have j:=i.ech.pos k f;omega
 have q:∀k,k<r->k<=c k:=by
  intro k;induction k with
  |zero=>intro _;omega
  |succ k o=>
   intro f;have g:=o oM;have j:=i.ech.inc k (k+1) oM f;omega
 have D:r<=e:=by
  rcases qY r with h|h
  omega;have g:=q (r-1) oM;have j:=p (r-1) oM;omega
 have C:e<=r:=by
  rcases zJ r e with h|h
  .have g:(0:Int)∣det e fun a b=>yZ n fun t=>X t (σ a)*H t b:=zEx (P:=fun a t=>X t (σ a)) (F:=H) fun s l=>by
    refine zHG (R:=n) (F:=H) (fun s l z=>?_) s l;have j:=z.le (e-1) oM;rw[zDo (c:=e-1) oM fun b v=>i.zero _ oM (l _ oM) b oM];exact zCq 0
   rw[zCu (G:=fun a b=>F (σ a) b) fun a u b v=>(w _ (B a u) b oM).symm]at g;exact absurd (Int.zero_dvd.1 g) y
  exact h
 refine⟨oM,fun k f=>?_⟩;have A:∀d k,k+d+1=r->c k+d<e:=by
  intro d;induction d with
  |zero=>intro k f;exact p k oM
  |succ d o=>
   intro k f;have g:=o (k+1) oM;have j:=i.ech.inc k (k+1) oM oM;omega
 have g:=A (r-1-k) k oM;have j:=q k f;omega
theorem zPt(f:Hnf m n r (fun k=>k) H)(w:∀a,a<n->∀b,b<m->F a b=yZ n fun t=>X t a*H t b)(B:j<=r)(y:∀a,a<j->∀b,b<j->a<b->F a b=0):
  zBd j (fun i=>H i i)∣zBd j (fun i=>F i i):=by
 have D:=f.le;have C:r<=m:=by
  rcases qY r with h|h
  omega;have:=f.ech.lt (r-1) oM;omega
 rw [<-zGD y];have u:zBd j (fun i=>H i i)∣det j fun a b=>yZ n fun t=>X t a*H t b:=zEx (P:=fun a t=>X t a) (F:=H) fun e o=>by
  refine zHG (R:=n) (F:=H) (fun e o l=>?_) e o;rcases qY j with hj0|hj0
  subst hj0;exact zCq _;rcases zJ (e (j-1)) j with h|h
  .have x:∀d,d<j->e (j-1-d)=j-1-d:=by
    intro d hd;have h2:=l.le (j-1-d) oM;rcases qY d with p|p
    .subst p
     have:=l.le (j-1) oM;simp only[Nat.sub_zero]at*;omega
    have:∀d,d<j->e (j-1-d)+d<=e (j-1):=by
     intro d;induction d with
     |zero=>intro _;simp
     |succ d z=>
      intro hd;have A:=z oM;have s:=l (j-1-(d+1)) oM;rw[show j-1-(d+1)+1=j-1-d by omega]at s;omega
    have:=this d hd;omega
   rw[zCu (G:=H) fun a q b g=>by
    have:=x (j-1-a) oM;rw[show j-1-(j-1-a)=a by omega]at this;rw[this]]
   rw[zHy fun a q b g v=>f.ech.zero a oM b v];exact zCq _
  rw[zDo (c:=j-1) oM fun b g=>?_];exact Int.dvd_zero _;rcases zJ (e (j-1)) r with h2|h2
  exact f.ech.zero _ h2 b oM;exact f.zero _ h2 (o _ oM) b oM
 rwa[zCu (G:=F) fun a q b g=>(w a oM b oM).symm]at u
theorem zRr(f:Hnf m n r (fun k=>k) H)(A:∀a,a<n->∀b,b<m->F a b=yZ n fun t=>X t a*H t b)(B:∀a,a<r->∀b,b<r->a<b->F a b=0)(D:∀i,i<r->F i i=H i i)(L:r<=m):
  ∀i,i<r->∀b,b<r->i<b->H i b=0:=by
 have M:=f.le;have w:∀a,a<n->∀b,b<m->F a b=yZ r fun t=>X t a*H t b:=fun a z b d=>by
  rw[A a z b d];refine zHi f.le fun t u l=>?_
  rw[f.zero t u l b d,zZ]
 intro i;induction i using Nat.strongRecOn with
 | ind i x=>
  intro g;have J:0<H i i:=f.ech.pos i g;have C:X i i=1:=by
   have e:=w i oM i oM;rw[zCF (c:=i) g (fun t j p=>by
    rcases zJ t i with h|h
    rw[x t h j i g h,zZ];rw[f.ech.zero t j i (by show i<t;omega),zZ]),D i g]at e
   have u:(X i i-1)*H i i=0:=by rw[Int.sub_mul,jR];omega
   rcases Int.mul_eq_zero.1 u with h|h<;>omega
  have I:∀b,b<r->i<b->H i b=0/\X b i=0:=by
   intro b;induction b using Nat.strongRecOn with
   | ind b G=>
    intro d o;have e:=w i oM b oM;rw[B i g b d o]at e;have E:yZ r (fun t=>X t i*H t b)=X i i*H i b+X b i*H b b:=by
     have y:yZ r (fun t=>X t i*H t b)=yZ r (fun t=>(if t=i then X i i*H i b else 0)+(if t=b then X b i*H b b else 0)):=yF fun t j=>by
      by_cases q:t=i
      .rw[zC q,zA oM,q];omega
      rw[zA q];by_cases s:t=b
      .rw[zC s,s];omega
      rw[zA s];rcases zJ t b with h|h
      .rcases zJ t i with l|l
       .rw[x t l j b d oM,zZ];rfl
       rw[(G t h j oM).2,zAM];rfl
      rw[f.ech.zero t j b (by show b<t;omega),zZ];rfl
     rw[y,zC4,zCF (c:=i) g (fun t _ p=>zA p),zCF (c:=b) d (fun t _ p=>zA p),zC rfl,zC rfl]
    rw[E,C,jR]at e;have K:0<=H i b/\H i b<H b b:=f.red i b o d trivial;have v:X b i=0:=by
     rcases zAI (X b i) 0 with h|h|h
     .have:X b i*H b b<=-1*H b b:=Int.mul_le_mul_of_nonneg_right oM oM
      omega
     exact h;have:1*H b b<=X b i*H b b:=Int.mul_le_mul_of_nonneg_right oM oM;omega
    rw[v,zAM]at e;exact⟨oM,v⟩
  exact fun b d o=>(I b d o).1
structure Rel(R C:Nat)(A:Nat->Nat->Int)(z:W5):Prop where
 s:∀a,a<R->∀b,b<C->z.s a b=yZ R fun s=>z.u a s*yZ C fun t=>A s t*z.w b t
 uv:∀a,a<R->∀b,b<R->dot R z.u z.v a b=idf a b
 vu:∀a,a<R->∀b,b<R->cod R z.v z.u a b=idf a b
 wx:∀a,a<C->∀b,b<C->dot C z.w z.x a b=idf a b
 xw:∀a,a<C->∀b,b<C->cod C z.x z.w a b=idf a b
theorem zRt(a b:Nat):idf a b=idf b a:=by unfold idf;split<;>split<;>omega
theorem zUt{a:Nat}(b:a<n)(f:Nat->Int):yZ n (fun t=>f t*idf t a)=f a:=by
 rw[zCF (c:=a) b];unfold idf;rw[zC rfl,Int.mul_one];intro t e d;unfold idf;rw[zA d,zZ]
theorem zTx(n:Nat):∀a,a<n->∀b,b<n->dot n idf idf a b=idf a b:=fun a d b c=>by
 unfold dot;rw[yF (g:=fun t=>idf a t*idf t b) (fun t e=>by rw[zRt b t]),zUt c]
structure leW(M R C Cu Cw:Nat)(z:W5):Prop where
 s:leM M R C z.s
 u:leM M R Cu z.u
 v:leM M R Cu z.v
 w:leM M C Cw z.w
 x:leM M C Cw z.x
def rnd(z:W5)(l1 l2:List Op):W5:=⟨trF (zEH l2 (trF (zEH l1 z.s))),zEH l1 z.u,zQH l1 z.v,zEH l2 z.w,zQH l2 z.x⟩
def GE(T:Nat):Nat:=(2*T)^KE
structure Low(R C r:Nat)(F:Nat->Nat->Int):Prop where
 hnf:Hnf R C r (fun k=>k) (trF F)
 row:∀a,r<=a->a<R->∀b,b<C->F a b=0
 le:r<=R
theorem zKw{b:Nat}{l:List Op}(d:zA2 n l):∀{F:Nat->Nat->Int},(∀a,a<n->F a b=0)->∀a,a<n->zEH l F a b=0:=by
 intro F h a c;rw[zQI d F a c b];exact zFE fun t e=>by rw[h t e,zZ]
theorem second{q:List Op}(m:Hnf C R r1 c1 H)(s:zA2 C q)(g:Hnf R C r2 c2 (zEH q (trF H))):
  r2=r1/\(∀k,k<r1->c2 k=k)/\Low R C r1 (trF (zEH q (trF H))):=by
 have u:∀a,a<C->∀b,r1<=b->b<R->zEH q (trF H) a b=0:=fun a d b h o=>zKw s (fun v x=>m.zero b h o v x) a d
 have z:det r1 (fun a b=>trF H (c1 a) b)≠0:=by
  have e:(fun a b=>trF H (c1 a) b)=trp (fun a b=>H a (c1 b)):=rfl;rw[e,zD1,zHy fun a d b r y=>m.ech.zero a d _ (m.ech.inc b a y d)];have:=zC1 (n:=r1) (f:=fun i=>H i (c1 i)) fun i A=>m.ech.pos i A
  omega
 obtain⟨w,p⟩:=zI2 g (fun a d b _=>zFO s (trF H) a d b) u m.le (fun a d=>m.ech.lt a d) z;subst w;refine⟨rfl,fun k c=>p k c,⟨g.le,⟨fun k c=>?_,fun k c=>?_,fun k c t B=>?_,fun k l h _=>h⟩,fun i j h o _=>?_,g.zero⟩,fun a h o b r=>u b r a h o,m.le⟩;have:=g.ech.lt k c;rwa[p k c]at this;have:=g.ech.pos k c;rw[p k c]at this;exact this;exact g.ech.zero k c t (by rw[p k c];exact B);have:=g.red i j h o trivial;rw[p j o]at this;exact this
theorem Hnf.congr_c(h:Hnf C n r c F)(b:∀k,k<r->c k=k):Hnf C n r (fun k=>k) F:=
 ⟨h.le,⟨fun k a=>by have:=h.ech.lt k a;rwa[b k a]at this,fun k a=>by have:=h.ech.pos k a;rw[b k a]at this;exact this,fun k a t f=>h.ech.zero k a t (by rw[b k a];exact f),fun k l d _=>d⟩,
  fun i j d e _=>by have:=h.red i j d e trivial;rw[b j e]at this;exact this,h.zero⟩
theorem first{d:List Op}(hF:Low R C r F)(g:zA2 R d)(e:Hnf C R r1 c1 (zEH d F)):
  r1=r/\Hnf C R r (fun k=>k) (zEH d F)/\∀a,a<R->∀b,r<=b->b<C->zEH d F a b=0:=by
 have h:∀a,a<R->∀b,r<=b->b<C->zEH d F a b=0:=fun a c b o p=>zKw g (fun j q=>hF.hnf.zero b o p j q) a c
 have u:det r (fun a b=>F a b)≠0:=by
  rw[zGD (F:=F) fun a c b t s=>hF.hnf.ech.zero b t a s];have:=zC1 (n:=r) (f:=fun i=>F i i) fun i v=>hF.hnf.ech.pos i v
  omega
 obtain⟨l,m⟩:=zI2 (σ:=fun a=>a) e (fun a c b _=>zFO g F a c b) h hF.hnf.le (fun a c=>by have:=hF.le;omega) u;subst l;exact⟨rfl,e.congr_c m,h⟩
def mu(r:Nat)(F:Nat->Nat->Int):Int:=zBd r fun j=>zBd (j+1) fun i=>F i i
theorem zIF(c:∀i,i<n->0<f i)(d:∀i,i<n->0<g i)(hd:∀i,i<n->f i∣g i)(h:zBd n f=zBd n g):∀i,i<n->f i=g i:=by
 induction n with
 |zero=>intro i a;omega
 | succ n p=>
  unfold zBd at h;have q:=zC1 (n:=n) (f:=f) fun i a=>c i oM
  have k:=zC1 (n:=n) (f:=g) fun i a=>d i oM
  have l:=zCh k (zKx fun i a=>hd i oM);have m:=zCh (d n oM) (hd n oM);have o:=c n oM;have j:zBd n f=zBd n g:=by
   refine Int.le_antisymm l ?_;refine Int.not_lt.1 fun b=>?_
   have:zBd n f*f n<zBd n g*f n:=Int.mul_lt_mul_of_pos_right b o;have:zBd n g*f n<=zBd n g*g n:=Int.mul_le_mul_of_nonneg_left m oM;omega
  have b:f n=g n:=by
   rw[j]at h;exact zAm oM h
  intro i a;by_cases e:i=n
  .rw[e];exact b
  exact p (fun i a=>c i oM) (fun i a=>d i oM) (fun i a=>hd i oM) j i oM
theorem zJi(c:∀i,i<r->0<g i)(h:∀j,j<=r->zBd j f=zBd j g):∀i,i<r->f i=g i:=by
 intro i d;have b:=h i oM;have a:=h (i+1) oM;unfold zBd at a;rw[b]at a;have:=zC1 (n:=i) (f:=g) fun k e=>c k oM
 exact zAm oM a
theorem zXU{h:Nat}{A:Nat->Nat->Int}{z:W5}{c e:List Op}{S:Nat}{G:Nat->Nat}{k:Nat}{I:Nat->Nat}(T:R<=4)(hF:Low R C r z.s)(y:zA2 R c)(v:zA2 C e)
  (P:Hnf C R S G (zEH c z.s)) (B:Hnf R C k I (zEH e (trF (zEH c z.s)))):
  Low R C r (rnd z c e).s/\(mu r (rnd z c e).s∣mu r z.s)/\(mu r (rnd z c e).s=mu r z.s->zPT R C (rnd z c e).s):=by
 obtain⟨rfl,n,U⟩:=first hF y P
 obtain⟨rfl,J,w⟩:=second n v B;have p:=B.congr_c J;have D:∀i,i<k->0<z.s i i:=fun i g=>hF.hnf.ech.pos i g
 have Q:∀i,i<k->0<zEH c z.s i i:=fun i g=>n.ech.pos i g
 have E:∀i,i<k->0<(rnd z c e).s i i:=fun i g=>w.hnf.ech.pos i g
 have t:∀j,j<=k->zBd j (fun i=>zEH c z.s i i)∣zBd j (fun i=>z.s i i):=fun j f=>zPt n (fun a d b _=>zFO y z.s a d b) f fun a d b m l=>hF.hnf.ech.zero b oM a l
 have u:∀j,j<=k->zBd j (fun i=>(rnd z c e).s i i)∣zBd j (fun i=>zEH c z.s i i):=fun j f=>
  zPt (F:=trF (zEH c z.s)) (H:=zEH e (trF (zEH c z.s))) p (fun a d b _=>zFO v _ a d b) f fun a d b m l=>n.ech.zero b oM a l
 refine⟨w,zKx fun j f=>zB5 (u _ oM) (t _ oM),fun O=>?_⟩;have K:=zIF (fun j f=>zC1 fun i g=>E i oM) (fun j f=>zC1 fun i g=>D i oM) (fun j f=>zB5 (u (j+1) oM) (t (j+1) oM)) O;have L:∀j,j<=k->zBd j (fun i=>zEH c z.s i i)=zBd j (fun i=>(rnd z c e).s i i):=fun j f=>by
  cases j with
  |zero=>rfl
  |succ j=>
   have o:=K j oM;have q:=zCh (zC1 fun i g=>Q i oM) (u (j+1) f);have x:=zCh (zC1 fun i g=>D i oM) (t (j+1) f);omega
 have M:=zJi E L;have N:=zRr (F:=trF (zEH c z.s)) p (fun a d b _=>zFO v _ a d b) (fun a d b m l=>n.ech.zero b m a l) M hF.le;intro a d b m l;show zEH e (trF (zEH c z.s)) b a=0;rcases zJ b k with o|o
 .rcases zJ a k with q|q
  .rcases zJ b a with x|x
   .exact N b o a q x
   exact p.ech.zero b o a (show a<b by omega)
  exact w.row a q d b m
 exact p.zero b o m a d
def zXZ:List (List Op × List Op)->W5->W5
 | [],z=>z
 |p::L,z=>zXZ L (rnd z p.1 p.2)
def okL(R C:Nat)(L:List (List Op × List Op)):Prop:=∀p∈L,zA2 R p.1/\zA2 C p.2
end Go.Proofs.YtniiekppgdkknaaGreat
