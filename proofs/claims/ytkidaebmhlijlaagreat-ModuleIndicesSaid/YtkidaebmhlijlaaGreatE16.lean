/- Joined. -/
import Derived.Test.YtkidaebmhlijlaaGreatE14
set_option linter.unusedVariables false
set_option linter.unusedSimpArgs false
set_option linter.unusedSectionVars false
set_option maxHeartbeats 16000000
set_option maxRecDepth 100000
variable{B C Cu Cw D R T h n r r' t:Nat}{f x:Nat->Int}{c c':Nat->Nat}{A F G H:Nat->Nat->Int}
namespace Go.Proofs.YtkidaebmhlijlaaGreat
open Go.RowKit
def qBg(n k:Nat):List Nat:=(List.range n).take k++(List.range n).drop (k+1)
def lap(n:Nat)(M:List (List Int))(j:Nat):Int:=qS j fun t=>sg1 t*(ent M 0 t*det n (mnr (ent M) 0 t))
theorem zJF(h:∃t,t<r/\x t≠0):∃t,t<r/\x t≠0/\∀s,s<t->x s=0:=by
 obtain⟨t,b⟩:=h;induction t using Nat.strongRecOn with
 | ind t g=>
  by_cases a:∃s,s<t/\x s≠0
  .obtain⟨s,c,d⟩:=a
   exact g s c ⟨oM,d⟩
  exact⟨t,b.1,b.2,fun s f=>zR fun e=>a ⟨s,f,e⟩⟩
theorem zL5(a:Ech C r c H)(d:t<r)(e:∀s,s<t->x s=0):(qS r fun s=>x s*H s (c t))=x t*H t (c t):=
 zBA d fun s b f=>by
  rcases zK s t with h|h
  rw[e s h,yK];rw[a.zero s b _ (a.inc t s oM b),qB]
theorem zOb(a:Ech C r c H){b:Nat}(g:t<r)(f:∀s,s<t->x s=0)(e:b<c t):(qS r fun s=>x s*H s b)=0:=
 zBt fun s d=>by
  rcases zK s t with h|h
  rw[f s h,yK];have:b<c s:=by
   rcases zK t s with h2|h2
   have:=a.inc t s h2 d;omega;obtain rfl:s=t:=oM;exact e
  rw[a.zero s d _ this,qB]
theorem zH6{v:Nat->Int}(e:Ech C r c H)(hv:∀b,b<C->v b=qS r fun t=>x t*H t b){d:Nat}(hd:d<C)(f:v d≠0)(q:∀b,b<d->v b=0):
  ∃j,j<r/\c j=d/\v d=x j*H j (c j):=by
 have n:∃t,t<r/\x t≠0:=zR fun o=>f (by
  rw[hv d hd];exact zBt fun t a=>by
   have:x t=0:=zR fun h=>o ⟨t,a,h⟩
   rw[this,yK])
 obtain⟨t,a,p,k⟩:=zJF n;have l:=zL5 e a k;have g:v (c t)=x t*H t (c t):=by rw[hv _ (e.lt t a),l]
 have m:v (c t)≠0:=by
  rw[g];exact Int.mul_ne_zero p (by have:=e.pos t a;omega)
 have i:c t=d:=by
  rcases yS (c t) d with h|h|h
  exact absurd (q _ h) m;exact h;exact absurd (by rw[hv d hd];exact zOb e a k h) f
 exact⟨t,a,i,by rw[<-i];exact g⟩
def zKl(n C:Nat)(H G:Nat->Nat->Int):Prop:=∃X:Nat->Nat->Int,∀a,a<n->∀b,b<C->G a b=qS n fun t=>X a t*H t b
theorem Hnf.span(d:Hnf C n r c H)(h:zKl n C H G):∃X:Nat->Nat->Int,∀a,a<n->∀b,b<C->G a b=qS r fun t=>X a t*H t b:=by
 obtain⟨X,e⟩:=h;refine⟨X,fun a j b f=>?_⟩;rw[e a j b f];exact zE4 d.le fun t g i=>by rw[d.zero t g i b f,qB]
theorem zQC(f:Hnf C n r c H)(e:Hnf C n r' c' G)(h1:zKl n C H G)(h2:zKl n C G H):∀k,k<r->k<r'/\c' k=c k:=by
 obtain⟨X,s⟩:=f.span h1;obtain⟨Y,t⟩:=e.span h2;have o:∀k,k<r'->∃j,j<r/\c j=c' k:=fun k d=>by
  obtain⟨j,a,b,-⟩:=zH6 f.ech (v:=G k) (x:=X k) (fun b g=>s k (zM d e.le) b g) (e.ech.lt k d) (by have:=e.ech.pos k d;omega) (e.ech.zero k d);exact⟨j,a,b⟩
 have p:∀k,k<r->∃j,j<r'/\c' j=c k:=fun k d=>by
  obtain⟨j,a,b,-⟩:=zH6 e.ech (v:=H k) (x:=Y k) (fun b g=>t k (zM d f.le) b g) (f.ech.lt k d) (by have:=f.ech.pos k d;omega) (f.ech.zero k d);exact⟨j,a,b⟩
 intro k;induction k using Nat.strongRecOn with
 | ind k m=>
  intro d;obtain⟨j,w,z⟩:=p k d;have E:k<=j:=by
   refine zAC fun h=>?_
   have q:=(m j h oM).2;have:=f.ech.inc j k h d;omega
  have l:k<r':=oM;refine⟨l,?_⟩;obtain⟨i,u,y⟩:=o k l;have A:c' k<=c' j:=by
   rcases zK k j with h|h
   exact zAi (e.ech.inc k j h w);obtain rfl:k=j:=oM;exact xgf _
  have B:k<=i:=by
   refine zAC fun h=>?_
   have q:=(m i h oM).2;have:=e.ech.inc i k h l;omega
  have D:c k<=c i:=by
   rcases zK k i with h|h
   exact zAi (f.ech.inc k i h u);obtain rfl:k=i:=oM;exact xgf _
  omega
theorem zRK(d:Hnf C n r c H)(g:Hnf C n r' c' G)(h1:zKl n C H G)(h2:zKl n C G H):
  r=r'/\(∀k,k<r->c' k=c k)/\∀a,a<n->∀b,b<C->G a b=H a b:=by
 have J:=zQC d g h1 h2;have k2:=zQC g d h2 h1;have V:r=r':=by
  have a1:r<=r':=by
   rcases qV r with h|h
   omega;have:=(J (r-1) oM).1;omega
  have a2:r'<=r:=by
   rcases qV r' with h|h
   omega;have:=(k2 (r'-1) oM).1;omega
  omega
 subst V;have o:∀k,k<r->c' k=c k:=fun k e=>(J k e).2
 obtain⟨X,B⟩:=d.span h1;obtain⟨Y,P⟩:=g.span h2;have D:∀k,k<r->G k (c k)=H k (c k):=fun k e=>by
  obtain⟨j,j1,j2,I⟩:=zH6 d.ech (v:=G k) (x:=X k) (fun b m=>B k (zM e g.le) b m) (g.ech.lt k e) (by have:=g.ech.pos k e;omega) (g.ech.zero k e);obtain⟨i,E,i2,F⟩:=zH6 g.ech (v:=H k) (x:=Y k) (fun b m=>P k (zM e d.le) b m) (d.ech.lt k e) (by have:=d.ech.pos k e;omega) (d.ech.zero k e);have M:j=k:=by
   rw[o k e]at j2;rcases yS j k with h|h|h
   have:=d.ech.inc j k h e;omega;exact h;have:=d.ech.inc k j h j1;omega
  have L:i=k:=by
   rw[o i E]at i2;rcases yS i k with h|h|h
   have:=d.ech.inc i k h e;omega;exact h;have:=d.ech.inc k i h E;omega
  subst M;subst L;rw[o _ e]at I F;exact zDV (by have:=g.ech.pos _ e;rw[o _ e]at this;omega) (by have:=d.ech.pos _ e;omega) ⟨Y _ _,by rw[F,zZ]⟩ ⟨X _ _,by rw[I,zZ]⟩
 refine⟨rfl,o,fun a u b m=>?_⟩;rcases zK a r with l|l
 .have A:∀b,b<C->G a b-H a b=qS r fun t=>(X a t-(if t=a then 1 else 0))*H t b:=fun b m=>by
   have q:(qS r fun t=>(if t=a then(1:Int)else 0)*H t b)=H a b:=by
    rw[zBA l (fun i _ U=>by rw[zA U,yK]),zB rfl,zAG]
   have K:=zQm r 1 (-1) (fun t=>X a t*H t b) (fun t=>(if t=a then(1:Int)else 0)*H t b);have s:(qS r fun t=>(X a t-(if t=a then 1 else 0))*H t b)=qS r fun t=>1*(X a t*H t b)+(-1)*((if t=a then(1:Int)else 0)*H t b):=zL fun t _=>by
    rw[zED];omega
   rw[B a u b m,s,K,q];omega
  have Z:∀t,t<r->X a t-(if t=a then 1 else 0)=0:=zR fun T=>by
   have R:∃t,t<r/\X a t-(if t=a then 1 else 0)≠0:=zR fun h=>T fun t f=>zR fun h2=>h ⟨t,f,h2⟩
   obtain⟨t,f,W,Q⟩:=zJF R;have q:=zL5 d.ech f Q;rw[<-A _ (d.ech.lt t f)]at q;have a0:=d.ech.pos t f;have S:∀y:Int,y≠0->H t (c t)<=(y*H t (c t)).natAbs:=fun y hy=>by
    rw[qU];have:1<=y.natAbs:=oM;have h5:=zP (H t (c t)).natAbs this;omega
   have p:=S _ W;rw[<-q]at p;rcases yS t a with h|h|h
   .have w:=d.ech.zero a l (c t) (d.ech.inc t a h l)
    have z:=g.ech.zero a l (c t) (by rw[o a l];exact d.ech.inc t a h l);rw[w,z]at p;simp at p;omega
   .subst h
    rw[D t f]at p;simp at p;omega
   obtain⟨w,z⟩:=d.red a t h f trivial;obtain⟨N,O⟩:=g.red a t h f trivial;rw[o t f,D t f]at O;rw[o t f]at N;omega
  have s:=A b m;rw[zBt (fun t f=>by rw[Z t f,yK])]at s;omega
 rw[g.zero a l u b m,d.zero a l u b m]
def rnds:List (List Op × List Op)->W5->W5
 | [],z=>z
 |p::L,z=>rnds L (rnd z p.1 p.2)
def okL(R C:Nat)(L:List (List Op × List Op)):Prop:=∀p∈L,jZ R p.1/\jZ C p.2
theorem okL.cons{p:List Op × List Op}{L:List (List Op × List Op)}(h1:jZ R p.1)(h2:jZ C p.2)(h:okL R C L):okL R C (p::L):=fun q hq=>by
 rcases List.mem_cons.1 hq with rfl|hq
 exact⟨h1,h2⟩;exact h q hq
theorem Rel.rnds{L:List (List Op × List Op)}(a:okL R C L):∀{z:W5},Rel R C A z->Rel R C A (rnds L z):=by
 induction L with
 |nil=>intro z h;exact h
 |cons p L c=>
  intro z h;exact c (fun q b=>a q (qT _ b)) (h.rnd (a p (zAa ..)).1 (a p (zAa ..)).2)
theorem zXe(L:List (List Op × List Op)):∀{z y:W5},z.s=y.s->(rnds L z).s=(rnds L y).s:=by
 induction L with
 |nil=>intro z y h;exact h
 |cons p L a=>
  intro z y h;refine a ?_;show trF (zBF p.2 (trF (zBF p.1 z.s)))=trF (zBF p.2 (trF (zBF p.1 y.s)));rw[h]
theorem zWB{z:W5}(f:R<=4)(h1:1<=h)(e:leM h R C A)(d:Rel R C A z)(c:Hnf C R r (fun k=>k) z.s)(g:∀a,a<R->∀b,r<=b->b<C->z.s a b=0):(jB r (fun i=>z.s i i)).natAbs<=24*h^4:=
 zQD (zD c.le f) h1 c g e (P:=z.u) (Q:=fun t b=>z.w b t) (P':=fun a s=>z.v s a) (Q':=fun t b=>z.x t b) d.s d.back
theorem zQM{z:W5}(k:R<=4)(h1:1<=h)(j:leM h R C A)(e:Rel R C A z)(hF:Low R C r z.s):(jB r (fun i=>z.s i i)).natAbs<=24*h^4:=
 zQD (A:=trF A) (H:=trF z.s) (zD hF.le k) h1 hF.hnf (fun a c b f g=>hF.row b f g a c) (zLT j) (P:=z.w) (Q:=fun t b=>z.u b t) (P':=fun a s=>z.x s a) (Q':=fun t b=>z.v t b)
  (fun a c b d=>by
   show z.s b a=_;rw[e.s b d a c];simp only[<-jK];rw[zBs];refine zL fun t m=>zL fun s l=>?_
   show z.u b s*(A s t*z.w a t)=z.w a t*(A s t*z.u b s);rw[jF,zZ (z.u b s),zZ (A s t),qA,jF,zZ (z.u b s)];grind)
  (fun a c b d=>by
   show A b a=_;rw[e.back b d a c];simp only[<-jK];rw[zBs];refine zL fun t m=>zL fun s l=>?_
   show z.v s b*(z.s s t*z.x t a)=z.x t a*(z.s s t*z.v s b);grind)
theorem zTq(hF:Low R C r F)(e:(jB r (fun i=>F i i)).natAbs<=T):leM T R C F:=
 zLT (zNU hF.hnf (fun a f b c d=>hF.row b c d a f) e)
theorem zTx(hF:Low R C r F):0<mu r F:=zAT fun j b=>zAT fun i a=>hF.hnf.ech.pos i oM
theorem zJ2{a b:Int}(c:0<a)(f:0<b)(h:a∣b)(d:a≠b):2*a<=b:=by
 obtain⟨k,rfl⟩:=h;have g:0<k:=by
  rcases zC4 0 k with h|h
  exact h;have:=zA4 (zBQ c) h;omega
 have i:k≠1:=fun e=>d (by rw[e,zAl])
 have:a*2<=a*k:=zAe oM oM;omega
theorem zUe{B:Nat}(k:R<=4)(P:C<=4)(h1:1<=h)(u:leM h R C A)(p:1<=T)(D:24*h^4<=T):∀(N:Nat) (z zg:W5) (M:Nat),Low R C r z.s->leW M R C Cu Cw z->zg.s=z.s->Rel R C A zg->mu r z.s<2^N->
  1<=M->M*(GE T*GE T)^(N+1)<B->∃f rr L,(∀g,f<=g->zIV B R C Cu Cw g rr z=some (rnds L z))/\okL R C L/\leW (M*(GE T*GE T)^(N+1)) R C Cu Cw (rnds L z)/\Low R C r (rnds L z).s/\zGi R C (rnds L z).s:=by
 intro N;have Q:1<=GE T*GE T:=qM (zJX p) (zJX p);induction N with
 |zero=>
  intro z zg M hF w d l U o n;have:=zTx hF;omega
 | succ N Z=>
  intro z zg M hF w d l U o n;have Y:leM T R C z.s:=zTq hF (zD (by
   have:=zQM k h1 u l (by rw[d];exact hF);rwa[d]at this) D)
  have O:M*(GE T*GE T)<B:=zI (zG _ (zBU oM _)) n;obtain⟨f,a,b,r1,c1,r2,c2,q,i,j,t,G,H⟩:=zLj k P w Y p o O (fun a0 r' c E S=>by
   obtain⟨e,v,x⟩:=first hF E S
   have:=zWB k h1 u (l.rows E) (by rw[d];exact v) (by rw[d];exact x);rw[d]at this;exact zNU v x (zD this D))
  obtain⟨m,I,J⟩:=qAh (h:=h) (A:=A) k hF i j G H;have F:M*(GE T*GE T)*(GE T*GE T)^(N+1)=M*(GE T*GE T)^(N+1+1):=by
   rw[zE,<-Nat.pow_succ']
  by_cases hd:zGi R C (rnd z a b).s
  .refine⟨f,1,[(a,b)],fun g y=>?_,okL.cons i j (fun a7 X=>by cases X),t.mono (zG _ (zBU oM _)),m,hd⟩
   unfold zIV;rw[q g y,zAN,zB hd];rfl
  have W:mu r (rnd z a b).s≠mu r z.s:=fun e=>hd (J e)
  have hh:=zJ2 (zTx m) (zTx hF) I W;have V:mu r (rnd z a b).s<2^N:=by
   have:(2:Int)^(N+1)=2^N*2:=Int.pow_succ 2 N;omega
  obtain⟨K,rr,L,k1,k2,k3,k4,k5⟩:=Z (rnd z a b) (rnd zg a b) (M*(GE T*GE T)) m t (by
   show trF (zBF b (trF (zBF a zg.s)))=trF (zBF b (trF (zBF a z.s)));rw[d]) (l.rnd i j) V (qM o Q) (by rw[F];exact n)
  refine⟨max f K,rr+1,(a,b)::L,fun g y=>?_,okL.cons i j k2,?_,k4,k5⟩
  .unfold zIV
   rw[q g oM,zAN,zA hd,k1 g oM];rfl
  rw[<-F];exact k3
theorem zNm(a:∀i,i<n->0<f i)(h:∀i,i<n->f i<=(D:Int)):jB n f<=((D^n:Nat):Int):=by
 induction n with
 |zero=>exact zEB _
 |succ n e=>
  have c:=e (fun i b=>a i oM) (fun i b=>h i oM);have d:=h n oM;have g:=a n oM;have j:=zAT (n:=n) (f:=f) fun i b=>a i oM
  have k:jB n f*f n<=jB n f*(D:Int):=zAe d oM;have l:jB n f*(D:Int)<=((D^n:Nat):Int)*(D:Int):=yY c oM;have m:((D^(n+1):Nat):Int)=((D^n:Nat):Int)*(D:Int):=by rw[qE,yJ]
  unfold jB;omega
theorem zLd(h:∀i,i<r->0<f i):∀j,j<=r->jB j f<=jB r f:=by
 intro j a;obtain⟨d,rfl⟩:=zAV a;clear a;induction d with
 |zero=>exact zEB _
 |succ d c=>
  have e:=c (fun i b=>h i oM);have g:0<jB (j+d) f:=zAT fun i b=>h i oM
  have k:=h (j+d) oM;have l:jB (j+d) f*1<=jB (j+d) f*f (j+d):=zAe oM oM;show _<=jB (j+d) f*f (j+d);omega
theorem zZr(e:r<=4)(hF:Low R C r F)(k:(jB r (fun i=>F i i)).natAbs<=D)(c:1<=D):mu r F<=((D^4:Nat):Int):=by
 have b:∀i,i<r->0<F i i:=fun i a=>hF.hnf.ech.pos i a
 have g:=zNm (n:=r) (f:=fun j=>jB (j+1) fun i=>F i i) (D:=D) (fun j d=>zAT fun i a=>b i oM) (fun j d=>by
  have:=zLd b (j+1) oM;omega)
 have h:D^r<=D^4:=zDH c e;unfold mu;omega
theorem zWb{M N:Nat}{z:W5}(l:R<=4)(D:C<=4)(h1:1<=h)(p:leM h R C A)(t:z.s=A)(X:leW M R C Cu Cw z)(F:1<=M)(G:24*(8*h)^4<=T)(hN:(24*h^4)^4<2^N)(y:M*(GE T*GE T)^(N+2)<B):
  ∃f rr L r,zIV B R C Cu Cw f rr z=some (rnds L z)/\okL R C L/\leW (M*(GE T*GE T)^(N+2)) R C Cu Cw (rnds L z)/\Low R C r (rnds L z).s/\zGi R C (rnds L z).s/\(jB r (fun i=>(rnds L z).s i i)).natAbs<=24*h^4:=by
 have b3:h<=h^4:=zBU oM _;have a7:24*h^4<=T:=zD (zG _ (yU oM _)) G;have q:1<=T:=oM;have U:1<=GE T*GE T:=qM (zJX q) (zJX q);have H:Rel R C A ⟨A,idf,idf,idf,idf⟩:=Rel.start R C A;have S:M*(GE T*GE T)<B:=zI (zG _ (zBU oM _)) y;obtain⟨f,d,g,n,c1,r2,c2,w,o,k,x,O,P⟩:=zLj l D X (by rw[t];exact p.mono oM) q F S (fun b4 r' c I E=>by
  rw[t]at E ⊢
  exact(zTV l h1 E p (fun a Y b _=>zEZ I A a Y b) (zIP I (zIG R))).mono G)
 obtain⟨-,-,V⟩:=second O k P;have j:Low R C n (rnd z d g).s:=V;have a0:(rnd ⟨A,idf,idf,idf,idf⟩ d g).s=(rnd z d g).s:=by
  show trF (zBF g (trF (zBF d A)))=trF (zBF g (trF (zBF d z.s)));rw[t]
 have Z:=H.rnd o k;have v:∀L,okL R C L->∀r,Low R C r (rnds L z).s->(jB r (fun i=>(rnds L z).s i i)).natAbs<=24*h^4:=fun L W r a8=>by
  have e:(rnds L ⟨A,idf,idf,idf,idf⟩).s=(rnds L z).s:=zXe L t.symm;have:=zQM l h1 p (Rel.rnds W H) (by rw[e];exact a8);rwa[e]at this
 by_cases hd:zGi R C (rnd z d g).s
 .have m:okL R C [(d,g)]:=okL.cons o k (fun b2 u=>by cases u)
  refine⟨f,1,[(d,g)],n,?_,m,x.mono (zG _ (zBU oM _)),j,hd,v _ m _ j⟩;unfold zIV;rw[w f (xgf _),zAN,zB hd];rfl
 have J:M*(GE T*GE T)*(GE T*GE T)^(N+1)=M*(GE T*GE T)^(N+2):=by
  rw[zE,<-Nat.pow_succ']
 have a9:mu n (rnd z d g).s<2^N:=by
  have b0:=v [(d,g)] (okL.cons o k (fun b2 u=>by cases u)) n j;have:=zZr (zD j.le l) j b0 oM;have e:((2^N:Nat):Int)=(2:Int)^N:=by rw[zCx];rfl
  omega
 obtain⟨Q,rr,L,k1,k2,k3,K,k5⟩:=zUe l D h1 p q a7 N (rnd z d g) (rnd ⟨A,idf,idf,idf,idf⟩ d g) (M*(GE T*GE T)) j x a0 Z a9 (qM F U) (by rw[J];exact y);have m:okL R C ((d,g)::L):=okL.cons o k k2;refine⟨max f Q,rr+1,(d,g)::L,n,?_,m,?_,K,k5,v _ m _ K⟩
 .unfold zIV
  rw[w _ oM,zAN,zA hd,k1 _ oM];rfl
 rw[<-J];exact k3
end Go.Proofs.YtkidaebmhlijlaaGreat
