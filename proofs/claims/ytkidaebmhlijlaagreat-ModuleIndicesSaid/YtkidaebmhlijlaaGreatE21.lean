/- Joined. -/
import Derived.Test.YtkidaebmhlijlaaGreatE16
import Derived.Test.YtkidaebmhlijlaaGreatE17
set_option linter.unusedVariables false
set_option linter.unusedSimpArgs false
set_option linter.unusedSectionVars false
set_option maxHeartbeats 16000000
set_option maxRecDepth 100000
variable{d g m0 m1 m2 m3 s t x y:Int}{B C Cu Cw K M N R T e i j k n r r':Nat}{f:Nat->Int}{A F G P Q:Nat->Nat->Int}
namespace Go.Proofs.YtkidaebmhlijlaaGreat
open Go.RowKit
theorem qBW:∀m n:Nat,∃s t:Int,s*(m:Int)+t*(n:Int)=((Nat.gcd m n:Nat):Int):=by
 intro m;induction m using Nat.strongRecOn with
 | ind m b=>
  intro n;rcases qV m with h|h
  .subst h
   exact⟨0,1,by rw[Nat.gcd_zero_left];omega⟩
  obtain⟨s,t,e⟩:=b (n%m) (yQ _ h) m;refine⟨t-s*((n/m:Nat):Int),s,?_⟩;rw[Nat.gcd_rec,<-e];have a:(n:Int)=(m:Int)*((n/m:Nat):Int)+((n%m:Nat):Int):=by
   have:=zAI n m;exact_mod_cast this.symm
  generalize ((n/m:Nat):Int)=q at*;generalize ((n%m:Nat):Int)=r at*;rw[a];grind
theorem qBV(a:0<=x)(b:0<=y):∃s t:Int,s*x+t*y=((Int.gcd x y:Nat):Int):=by
 obtain⟨s,t,e⟩:=qBW x.natAbs y.natAbs;refine⟨s,t,?_⟩;rw[show((x.natAbs:Nat):Int)=x by omega,show((y.natAbs:Nat):Int)=y by omega]at e;exact e
def bl(f:Nat->Int)(i j:Nat)(m0 m1 m2 m3:Int)(a:Nat):Int:=if a=i then m0*f i+m1*f j else if a=j then m2*f i+m3*f j else f a
theorem zJe(n:Nat)(F:Nat->Nat->Int)(i j:Nat)(m0 m1 m2 m3:Int)(X:Nat->Int)(a:Nat):
  qS n (fun t=>jQ F i j m0 m1 m2 m3 a t*X t)=bl (fun a=>qS n fun t=>F a t*X t) i j m0 m1 m2 m3 a:=by
 unfold bl jQ;split
 .rw[<-jK,<-jK,<-zBw]
  exact zL fun t b=>by rw[zBx,qA,qA]
 split
 .rw[<-jK,<-jK,<-zBw]
  exact zL fun t b=>by rw[zBx,qA,qA]
 rfl
theorem zK1(n:Nat)(F:Nat->Nat->Int)(i j:Nat)(m0 m1 m2 m3:Int)(X:Nat->Int)(a:Nat):
  qS n (fun t=>X t*jQ F i j m0 m1 m2 m3 a t)=bl (fun a=>qS n fun t=>X t*F a t) i j m0 m1 m2 m3 a:=by
 rw[zL (g:=fun t=>jQ F i j m0 m1 m2 m3 a t*X t) (fun t b=>zZ _ _),zJe];unfold bl;dsimp only;rw[zL (g:=fun t=>F i t*X t) (f:=fun t=>X t*F i t) (fun t b=>zZ _ _),zL (g:=fun t=>F j t*X t) (f:=fun t=>X t*F j t) (fun t b=>zZ _ _),zL (g:=fun t=>F a t*X t) (f:=fun t=>X t*F a t) (fun t b=>zZ _ _)]
theorem zM6{m0 m1 m2 m3 n0 o p q:Int}(w:i<n)(x:j<n)(m:i≠j)(h:∀a,a<n->∀b,b<n->dot n P Q a b=idf a b)
  (y:m0*n0+m1*o=1) (z:m0*p+m1*q=0) (A:m2*n0+m3*o=0) (B:m2*p+m3*q=1):∀a,a<n->∀b,b<n->dot n (jQ P i j m0 m1 m2 m3) (jQ Q i j n0 o p q) a b=idf a b:=by
 intro a u b v;unfold dot;rw[zJe];have e:∀a,a<n->qS n (fun t=>P a t*jQ Q i j n0 o p q b t)=bl (fun b=>idf a b) i j n0 o p q b:=fun a u=>by
  rw[zK1];have g:∀b,b<n->qS n (fun t=>P a t*Q b t)=idf a b:=fun b v=>h a u b v
  unfold bl;dsimp only;rw[g i w,g j x,g b v]
 have l:¬ j=i:=fun h=>m h.symm
 unfold bl;dsimp only;rw[e i w,e j x,e a u];unfold bl idf;by_cases f:a=i
 .by_cases c:b=i
  .subst f;subst c;simp[m,l];omega
  by_cases d:b=j
  .subst f;subst d;simp[m,l];omega
  have r:¬ i=b:=fun h=>c h.symm
  have s:¬ j=b:=fun h=>d h.symm
  subst f;simp[c,d,r,s]
 by_cases k:a=j
 .by_cases c:b=i
  .subst k;subst c;simp[m,l];omega
  by_cases d:b=j
  .subst k;subst d;simp[m,l];omega
  have r:¬ i=b:=fun h=>c h.symm
  have s:¬ j=b:=fun h=>d h.symm
  subst k;simp[c,d,r,s,l]
 by_cases c:b=i
 .subst c;simp[f,k]
 by_cases d:b=j
 .subst d;simp[f,k,l]
 simp[f,k,c,d]
theorem zSH{g:Nat->Int}(a:i<n)(c:j<n)(b:i≠j)(h:∀t,t<n->t≠i->t≠j->f t=g t)(h1:f i+f j=g i+g j):qS n f=qS n g:=
 zKZ (d:=f i-g i) a c b h oM oM
theorem zM5{P Q:Nat->Nat->Int}{m0 m1 m2 m3 n0 c d e:Int}(v:i<n)(w:j<n)(k:i≠j)
  (l:n0*m0+d*m2=1) (m:n0*m1+d*m3=0) (o:c*m0+e*m2=0) (u:c*m1+e*m3=1) (a b:Nat):cod n (jQ Q i j n0 c d e) (jQ P i j m0 m1 m2 m3) a b=cod n Q P a b:=by
 refine zSH v w k (fun t y f g=>?_) ?_;unfold jQ;rw[zA f,zA f,zA g,zA g];unfold jQ;have x:¬ j=i:=fun h=>k h.symm
 simp only[if_true,if_neg x];generalize P i b=p;generalize P j b=q;generalize Q i a=r;generalize Q j a=s;have:(n0*r+c*s)*(m0*p+m1*q)+(d*r+e*s)*(m2*p+m3*q)=r*p*(n0*m0+d*m2)+r*q*(n0*m1+d*m3)+s*p*(c*m0+e*m2)+s*q*(c*m1+e*m3):=by grind
 rw[this,l,m,o,u];omega
theorem zVf{z:W5}(h:Rel R C A z)(hd:zGi R C z.s)(U:i<j)(V:j<min R C)(T:Int.gcd (z.s i i) (z.s j j)≠0)(p:s*z.s i i+t*z.s j j=((Int.gcd (z.s i i) (z.s j j):Nat):Int)):Rel R C A (qAL z i j s t):=by
 obtain⟨u0,D⟩:(((Int.gcd (z.s i i) (z.s j j):Nat):Int))∣z.s i i:=zBd ..;obtain⟨v,u⟩:(((Int.gcd (z.s i i) (z.s j j):Nat):Int))∣z.s j j:=zCN ..;obtain⟨g,o⟩:∃g:Int,((Int.gcd (z.s i i) (z.s j j):Nat):Int)=g:=⟨_,rfl⟩;have L:g≠0:=by rw[<-o];omega
 rw[o]at p D u;have N:z.s i i/g=u0:=by rw[D];exact zBR _ L
 have E:z.s j j/g=v:=by rw[u];exact zBR _ L
 have S:s*u0+t*v=1:=by
  have:g*(s*u0+t*v)=g*1:=by rw[D,u]at p;grind
  exact zAd L this
 have P:i<R/\i<C/\j<R/\j<C:=oM;obtain⟨x,q,y,r⟩:=P;have B:i≠j:=oM;have M:¬ j=i:=oM;refine⟨fun a k b m=>?_,?_,fun a k b m=>?_,?_,fun a k b m=>?_⟩
 .show zI2 z.s i j a b=qS R fun c=>jQ z.u i j s t (-(z.s j j/_)) (z.s i i/_) a c*qS C fun f=>A c f*jQ z.w i j 1 1 (-(t*(z.s j j/_))) (1-t*(z.s j j/_)) b f
  unfold zI2;rw[o,N,E];have O:∀c,qS C (fun f=>A c f*jQ z.w i j 1 1 (-(t*v)) (1-t*v) b f)=bl (fun b=>qS C fun f=>A c f*z.w b f) i j 1 1 (-(t*v)) (1-t*v) b:=fun c=>zK1 _ _ _ _ _ _ _ _ _ _
  simp only[O];rw[zJe];have I:∀a,a<R->qS R (fun c=>z.u a c*bl (fun b=>qS C fun f=>A c f*z.w b f) i j 1 1 (-(t*v)) (1-t*v) b)=bl (fun b=>z.s a b) i j 1 1 (-(t*v)) (1-t*v) b:=fun a k=>by
   have w:∀b,b<C->z.s a b=qS R fun s=>z.u a s*qS C fun t=>A s t*z.w b t:=fun b p=>h.s a k b p
   unfold bl;dsimp only;split
   .rw[w i q,w j r,<-jK,<-jK,<-zBw]
    exact zL fun c _=>by rw[zDK,jF (z.u a c),jF (z.u a c)]
   split
   .rw[w i q,w j r,<-jK,<-jK,<-zBw]
    exact zL fun c _=>by rw[zDK,jF (z.u a c),jF (z.u a c)]
   rw[w b m]
  have Q:bl (fun a=>qS R fun c=>z.u a c*bl (fun b=>qS C fun f=>A c f*z.w b f) i j 1 1 (-(t*v)) (1-t*v) b) i j s t (-v) u0 a=bl (fun a=>bl (fun b=>z.s a b) i j 1 1 (-(t*v)) (1-t*v) b) i j s t (-v) u0 a:=by
   unfold bl at*;dsimp only at*;rw[I i x,I j y,I a k]
  rw[Q];have G:z.s i j=0:=hd i x j r B;have H:z.s j i=0:=hd j y i q M;unfold bl;dsimp only;by_cases n:a=i
  .subst n
   by_cases d:b=a
   .subst d
    rw[zA oM,zB ⟨rfl,rfl⟩,zB rfl,zB rfl,zB rfl,G,H,<-p];grind
   by_cases l:b=j
   .subst l
    rw[zA oM,zA oM,zB rfl,zA M,zA M,zB rfl,zB rfl,H,G];have:s*(-(t*v)*z.s a a+(1-t*v)*0)+t*(-(t*v)*0+(1-t*v)*z.s b b)=-(t*v)*(s*z.s a a+t*z.s b b)+t*z.s b b:=by grind
    rw[this,p,u];grind
   have J:z.s a b=0:=hd a k b m (fun e=>d e.symm);have K:z.s j b=0:=hd j y b m (fun e=>l e.symm);rw[zA oM,zA oM,zB rfl,zA d,zA l,zA d,zA l,J,K];omega
  by_cases F:a=j
  .subst F
   by_cases d:b=i
   .subst d
    rw[zA oM,zA oM,zA n,zB rfl,zB rfl,zB rfl,G,H];have:-v*(1*z.s b b+1*0)+u0*(1*0+1*z.s a a)=u0*z.s a a-v*z.s b b:=by grind
    rw[this,D,u];grind
   by_cases l:b=a
   .subst l
    rw[zB ⟨rfl,rfl⟩,zA n,zB rfl,zA d,zA d,zB rfl,zB rfl,G,H];have:-v*(-(t*v)*z.s i i+(1-t*v)*0)+u0*(-(t*v)*0+(1-t*v)*z.s b b)=t*v*v*z.s i i+(1-t*v)*u0*z.s b b:=by grind
    rw[this,D,u];grind
   have J:z.s i b=0:=hd i x b m (fun e=>d e.symm);have K:z.s a b=0:=hd a k b m (fun e=>l e.symm);rw[zA oM,zA oM,zA n,zB rfl,zA d,zA l,zA d,zA l,J,K];omega
  rw[zA oM,zA oM,zA n,zA F];by_cases d:b=i
  .subst d
   rw[zB rfl,hd a k b m n,hd a k j r F];omega
  by_cases l:b=j
  .subst l
   rw[zA d,zB rfl,hd a k b m F,hd a k i q n];omega
  rw[zA d,zA l]
 .show ∀a,a<R->∀b,b<R->dot R (jQ z.u i j s t (-(z.s j j/_)) (z.s i i/_)) (jQ z.v i j (z.s i i/_) (z.s j j/_) (-t) s) a b=idf a b
  rw[o,N,E];exact zM6 x y B h.uv S (by grind) (by grind) (by grind)
 .show cod R (jQ z.v i j (z.s i i/_) (z.s j j/_) (-t) s) (jQ z.u i j s t (-(z.s j j/_)) (z.s i i/_)) a b=idf a b
  rw[o,N,E,zM5 x y B (by grind) (by grind) (by grind) (by grind)];exact h.vu a k b m
 .show ∀a,a<C->∀b,b<C->dot C (jQ z.w i j 1 1 (-(t*(z.s j j/_))) (1-t*(z.s j j/_))) (jQ z.x i j (1-t*(z.s j j/_)) (t*(z.s j j/_)) (-1) 1) a b=idf a b
  rw[o,E];exact zM6 q r B h.wx (by grind) (by grind) (by grind) (by grind)
 show cod C (jQ z.x i j (1-t*(z.s j j/_)) (t*(z.s j j/_)) (-1) 1) (jQ z.w i j 1 1 (-(t*(z.s j j/_))) (1-t*(z.s j j/_))) a b=idf a b;rw[o,E,zM5 q r B (by grind) (by grind) (by grind) (by grind)];exact h.xw a k b m
structure Dg(R C r:Nat)(F:Nat->Nat->Int):Prop where
 off:zGi R C F
 pos:∀i,i<r->0<F i i
 zero:∀i,r<=i->i<min R C->F i i=0
 le:r<=min R C
theorem Low.dg(h:Low R C r F)(hd:zGi R C F):Dg R C r F:=
 ⟨hd,fun i b=>h.hnf.ech.pos i b,fun i a c=>h.row i a oM i oM,by have:=h.le;have:=h.hnf.le;omega⟩
theorem Dg.both(h:Dg R C r F)(d:i<j)(c:j<min R C)(b:¬ F i i∣F j j):j<r/\0<F i i/\0<F j j:=by
 have a:j<r:=by
  rcases zK j r with h1|h1
  exact h1;rw[h.zero j h1 c]at b;exact absurd (zCW _) b
 exact⟨a,h.pos i oM,h.pos j a⟩
theorem zL6(a:i<j):zI2 F i j i i=((Int.gcd (F i i) (F j j):Nat):Int):=by
 unfold zI2;rw[zA oM,zB ⟨rfl,rfl⟩]
theorem zL7:zI2 F i j j j=F i i*(F j j/((Int.gcd (F i i) (F j j):Nat):Int)):=by
 unfold zI2;rw[zB ⟨rfl,rfl⟩]
theorem zG9{a b:Nat}(h1:¬ (a=j/\b=j))(h2:¬ (a=i/\b=i)):zI2 F i j a b=F a b:=by
 unfold zI2;rw[zA h1,zA h2]
theorem zJw(i:0<x)(j:0<y):∃g u v:Int,((Int.gcd x y:Nat):Int)=g/\0<g/\x=g*u/\y=g*v/\0<u/\0<v/\x/g=u/\y/g=v:=by
 obtain⟨u,b⟩:(((Int.gcd x y:Nat):Int))∣x:=zBd ..;obtain⟨v,c⟩:(((Int.gcd x y:Nat):Int))∣y:=zCN ..;have a:0<((Int.gcd x y:Nat):Int):=by
  have:Int.gcd x y≠0:=fun h=>by rw[zB2]at h;omega
  omega
 generalize f:((Int.gcd x y:Nat):Int)=g at*;have d:0<u:=by
  rcases zC4 0 u with h|h
  exact h;have:=zA4 (zBQ a) h;omega
 have e:0<v:=by
  rcases zC4 0 v with h|h
  exact h;have:=zA4 (zBQ a) h;omega
 exact⟨g,u,v,rfl,a,b,c,d,e,by rw[b];exact zBR _ oM,by rw[c];exact zBR _ oM⟩
theorem Dg.step(h:Dg R C r F)(e:i<j)(w:j<min R C)(y:¬ F i i∣F j j):Dg R C r (zI2 F i j):=by
 obtain⟨H,d,n⟩:=h.both e w y;obtain⟨g,u,v,c,f,B,D,E,l,G,m⟩:=zJw d n;refine⟨fun a q b t s=>?_,fun k x=>?_,fun k o p=>?_,h.le⟩;rw[zG9 oM oM];exact h.off a q b t s
 .by_cases z:k=i
  .rw[z,zL6 e,c];exact f
  by_cases A:k=j
  .rw[A,zL7,c,m];exact Int.mul_pos d l
  rw[zG9 oM oM];exact h.pos k x
 rw[zG9 oM oM];exact h.zero k o p
theorem zS9{r:Nat}(n:i<j)(h2:0<F i i)(l:0<F j j):∃u:Int,F i i=((Int.gcd (F i i) (F j j):Nat):Int)*u/\0<u∧
  ∀m,jB m (fun k=>zI2 F i j k k)*(if i<m/\m<=j then u else 1)=jB m (fun k=>F k k):=by
 obtain⟨g,u,v,b,q,c,e,f,s,t,h⟩:=zJw h2 l;refine⟨u,by rw[b];exact c,f,fun m=>?_⟩;induction m with
 |zero=>rw[zA oM];rfl
 | succ m a=>
  show jB m (fun k=>zI2 F i j k k)*zI2 F i j m m*_=jB m (fun k=>F k k)*F m m;by_cases o:m=i
  .subst o
   rw[zA oM,zAl]at a;rw[zL6 n,b,zB oM,a,qA,<-c]
  by_cases p:m=j
  .subst p
   rw[zB oM]at a;rw[zL7,b,h,zA oM,zAl,<-a,c];have:F m m=g*v:=e;rw[this];grind
  rw[zG9 oM oM,<-a];by_cases d:i<m/\m<=j
  .rw[zB d,zB oM]
   grind
  rw[zA d,zA oM];grind
theorem zX0(h:Dg R C r F)(f:i<j)(q:j<min R C)(g:¬ F i i∣F j j):2*mu r (zI2 F i j)<=mu r F/\jB r (fun k=>zI2 F i j k k)=jB r (fun k=>F k k):=by
 obtain⟨A,v,w⟩:=h.both f q g;have l:=h.step f q g;obtain⟨u,n,y,e⟩:=zS9 (r:=r) f v w;have p:∀m,jB m (fun k=>zI2 F i j k k)∣jB m (fun k=>F k k):=fun m=>⟨_,(e m).symm⟩
 refine⟨zJ2 (zAT fun a c=>zAT fun b d=>l.pos b oM) (zAT fun a c=>zAT fun b d=>h.pos b oM) (zHy fun a c=>p _) (fun x=>?_),?_⟩
 .have s:=zGH (fun a c=>zAT fun b d=>l.pos b oM) (fun a c=>zAT fun b d=>h.pos b oM) (fun a c=>p (a+1)) x i oM
  have o:=e (i+1);rw[zB oM,<-s]at o;have z:0<jB (i+1) (fun k=>zI2 F i j k k):=zAT fun b d=>l.pos b oM
  have t:u=1:=zAd (a:=jB (i+1) fun k=>zI2 F i j k k) oM (by rw[o,zAl]);rw[t,zAl]at n;exact g (by rw[n];exact zCN ..)
 have:=e r;rwa[zA oM,zAl]at this
theorem zCr{X Y:Nat}(a:x.natAbs<=X)(b:y.natAbs<=Y):(x*y).natAbs<=X*Y:=by
 rw[qU];exact qO a b
theorem zHj(h:leM M n C F)(d:i<n)(f:j<n)(hK:1<=K)(g:m0.natAbs<=K)(h1:m1.natAbs<=K)(h2:m2.natAbs<=K)(k:m3.natAbs<=K):
  leM (M*(2*K)) n C (jQ F i j m0 m1 m2 m3):=by
 intro a l b c;have e:M*(2*K)=K*M+K*M:=by rw[zN,zE];omega
 have m:=zCr g (h i d b c);have o:=zCr h1 (h j f b c);have p:=zCr h2 (h i d b c);have q:=zCr k (h j f b c);have r:=h a l b c;have s:M<=K*M:=qQ _ hK;unfold jQ;split;omega;split<;>omega
theorem zMd(h:leM M n C F)(k:i<n)(l:j<n)(hK:1<=K)(g:1<=M)(m:M*(2*K)<B)(d:m0.natAbs<=K)(h1:m1.natAbs<=K)(h2:m2.natAbs<=K)(f:m3.natAbs<=K):zWL B C F i j m0 m1 m2 m3:=by
 have e:M*(2*K)=K*M+K*M:=by rw[zN,zE];omega
 have s:M<=K*M:=qQ _ hK;have u:K<=K*M:=zO _ g;refine⟨oM,oM,oM,oM,fun t c=>?_⟩;have a:=h i k t c;have b:=h j l t c;have o:=zCr d a;have p:=zCr h1 b;have q:=zCr h2 a;have r:=zCr f b;exact⟨oM,oM,oM,oM,oM,oM⟩
structure qAQ(M T R C Cu Cw r e:Nat)(y0 y:W5):Prop where
 dg:Dg R C r y.s
 muh:mu r y.s*2^e<=mu r y0.s
 prod:jB r (fun k=>y.s k k)=jB r (fun k=>y0.s k k)
 u:leM (M*(4*T*T)^e) R Cu y.u
 v:leM (M*(4*T*T)^e) R Cu y.v
 w:leM (M*(4*T*T)^e) C Cw y.w
 x:leM (M*(4*T*T)^e) C Cw y.x
theorem Dg.small(h:Dg R C r F)(j:(jB r (fun k=>F k k)).natAbs<=T):leM T R C F:=by
 intro a d b f;by_cases e:a=b
 .subst e
  rcases zK a r with c|c
  .have g:=zPO h.pos c
   have i:=h.pos a c;omega
  rw[h.zero a c oM];omega
 rw[h.off a d b f e];omega
theorem zP6{u v:Int}(l:0<x)(n:0<y)(m:x.natAbs<=T)(G:y.natAbs<=T)(j:g=((Int.gcd x y:Nat):Int))(k:u=x/g)(hv:v=y/g)(i:Bez x y s t):
  s.natAbs<=2*T*T/\t.natAbs<=2*T*T/\u.natAbs<=2*T*T/\v.natAbs<=2*T*T/\(t*v).natAbs<=2*T*T/\(1-t*v).natAbs<=2*T*T/\(x*v).natAbs<=T*T:=by
 obtain⟨f,p,q,a,z,b,c,A,B,d,e⟩:=zJw l n;obtain rfl:g=f:=by rw[j];exact a
 obtain rfl:u=p:=by rw[k];exact d
 obtain rfl:v=q:=by rw[hv];exact e
 obtain⟨-,r,w⟩:=i;have h:1<=T:=oM;have F:T<=T*T:=qQ _ h;have E:2*T*T=T*T+T*T:=by rw[zE];omega
 have C:u<=x:=by rw[b];have:1*u<=g*u:=yY oM oM;omega
 have D:v<=y:=by rw[c];have:1*v<=g*v:=yY oM oM;omega
 have H:(t*v).natAbs<=T*T:=zCr oM oM;have o:(x*v).natAbs<=T*T:=zCr m oM;refine⟨oM,oM,oM,oM,oM,oM,o⟩
theorem zTB{a:W5}(A:(jB r (fun k=>a.s k k)).natAbs<=T)(B:1<=T)(w:Dg R C r a.s)(E:leM M R Cu a.u)(hv:leM M R Cu a.v)(F:leM M C Cw a.w)(G:leM M C Cw a.x){y:W5}(h:zOR (min R C) a y):∃e,qAQ M T R C Cu Cw r e a y:=by
 induction h with
 |refl=>exact⟨0,w,by simp,rfl,by simpa using E,by simpa using hv,by simpa using F,by simpa using G⟩
 | step y i j s t L c d f D H=>
  obtain⟨e,hI⟩:=H;obtain⟨I,u,v⟩:=hI.dg.both c d f;have q:=hI.dg.small (T:=T) (by rw[hI.prod];exact A);obtain⟨g,l,m,n,o,p,J⟩:=zP6 u v (q i oM i oM) (q j oM j oM) rfl rfl rfl D;have hK:1<=2*T*T:=qM oM B;have b:M*(4*T*T)^e*(2*(2*T*T))=M*(4*T*T)^(e+1):=by
   rw[qE,zE];congr 2;rw[<-zE,<-zE]
  obtain⟨m1,m2⟩:=zX0 hI.dg c d f;refine⟨e+1,hI.dg.step c d f,?_,m2.trans hI.prod,?_,?_,?_,?_⟩
  .refine Int.le_trans ?_ hI.muh
   have x:(0:Int)<=2^e:=Int.pow_nonneg oM;have z:(2:Int)^(e+1)=2*2^e:=by rw[Int.pow_succ,zZ]
   show mu r (zI2 y.s i j)*2^(e+1)<=_;rw[z,<-qA];refine yY ?_ x;omega
  .have:=zHj (K:=2*T*T) hI.u (show i<R by omega) (show j<R by omega) hK g l (by rw[zY];exact n) m
   rwa[b]at this
  .have:=zHj (K:=2*T*T) hI.v (show i<R by omega) (show j<R by omega) hK m n (m2:=-t) (by rw[zY];exact l) g
   rwa[b]at this
  .have:=zHj (K:=2*T*T) (m0:=1) (m1:=1) hI.w (show i<C by omega) (show j<C by omega) hK hK hK (by rw[zY];exact o) p
   rwa[b]at this
  have:=zHj (K:=2*T*T) (m2:=-1) (m3:=1) hI.x (show i<C by omega) (show j<C by omega) hK p o (by rw[zY];exact hK) hK;rwa[b]at this
theorem qAQ.few{c y:W5}(h:qAQ M T R C Cu Cw r e c y)(n:mu r c.s<2^N):e<N:=by
 have j:=h.muh;have k:0<mu r y.s:=zAT fun a o=>zAT fun b p=>h.dg.pos b oM
 have d:(0:Int)<=2^e:=Int.pow_nonneg oM;have l:1*(2:Int)^e<=mu r y.s*2^e:=yY oM d;refine zCk fun f=>?_
 have m:(2:Nat)^N<=2^e:=zDH oM f;have g:((2^N:Nat):Int)=(2:Int)^N:=by rw[zCx];rfl
 have i:((2^e:Nat):Int)=(2:Int)^e:=by rw[zCx];rfl
 omega
theorem zX3{B:Nat}{a:W5}(I:(jB r (fun k=>a.s k k)).natAbs<=T)(A:1<=T)(a1:1<=M)(h0:Dg R C r a.s)(L:leM M R Cu a.u)(hv:leM M R Cu a.v)(Q:leM M C Cw a.w)(S:leM M C Cw a.x)(H:mu r a.s<2^N)
  (F:M*(4*T*T)^(N+1)<B) {y:W5} (h:zOR (min R C) a y):
  okW B R C Cu Cw y/\∀i j,i<j->j<min R C->¬ y.s i i∣y.s j j->zSd B C Cu Cw y i j:=by
 obtain⟨e,hI⟩:=zTB I A h0 L hv Q S h;have he:=hI.few H;have hQ:1<=4*T*T:=qM oM A;have G:M*(4*T*T)^e*(4*T*T)<=M*(4*T*T)^(N+1):=by
  rw[zE,<-qE];exact zG _ (zDH hQ oM)
 have c:=zI G F;have b:1<=M*(4*T*T)^e:=qM a1 (qG oM);have D:=hI.dg.small (T:=T) (by rw[hI.prod];exact I);have v:=hI.u;have w:=hI.v;have x:=hI.w;have gx:=hI.x;have a2:=hI.dg;clear G F hI H L hv Q S he;generalize M*(4*T*T)^e=m at c b v w x gx;have a6:T<=T*T:=qQ _ A;have a0:4*T*T=2*(2*T*T):=by rw[<-zE,<-zE]
 have E:2*T*T=2*(T*T):=zE _ _ _;rw[a0,E]at c;have a4:m<=m*(2*(2*(T*T))):=zO _ oM;have a5:2*(2*(T*T))<=m*(2*(2*(T*T))):=qQ _ b;refine⟨⟨D.ok oM,v.ok oM,w.ok oM,x.ok oM,gx.ok oM⟩,fun i j a3 hj hn=>?_⟩;obtain⟨b1,Y,Z⟩:=a2.both a3 hj hn;have s1:=D i oM i oM;have s2:=D j oM j oM;refine⟨⟨oM,oM⟩,fun h=>by rw[zB2]at h;omega,fun g a7 a8 s t K O P J=>?_⟩;obtain⟨n,o,p,q,d,u,c7⟩:=zP6 Y Z s1 s2 K O P J;rw[E]at n o p q d u;have hK:1<=2*(T*T):=oM;have l:∀z:Int,z.natAbs<=2*(T*T)->(-z).natAbs<=2*(T*T):=fun z h=>by rw[zY];exact h
 have f:(1:Int).natAbs<=2*(T*T):=hK;have q1:T*T<B:=oM;have q2:2*(T*T)<B:=oM;have V:i<R:=oM;have X:j<R:=oM;have U:i<C:=oM;have W:j<C:=oM;clear O P J K;refine⟨zI c7 q1,zI d q2,?_,?_,?_,?_⟩;exact zMd v V X hK b c n o (l _ q) p;exact zMd w V X hK b c p q (l _ o) n;exact zMd x U W hK b c f f (l _ d) u;exact zMd gx U W hK b c u d (l _ f) f
def Chn(i n:Nat)(F:Nat->Nat->Int):Prop:=∀a b,i<=a->a<b->b<n->F a a∣F b b
theorem zVe(g:i<j)(l:k<=i)(m:j<n)(h:∀a,k<=a->a<n->d∣F a a):∀a,k<=a->a<n->d∣zI2 F i j a a:=by
 intro a e f;by_cases b:a=j
 .rw[b,zL7];exact Int.dvd_mul_of_dvd_left (h i oM oM)
 by_cases c:a=i
 .rw[c,zL6 g];exact Int.dvd_coe_gcd (h i l oM) (h j oM m)
 rw[zG9 oM oM];exact h a e f
theorem zVc(c:k<=i):∀(m j:Nat) (F:Nat->Nat->Int),i<j->j+m<=n->(∀a,k<=a->a<n->d∣F a a)->∀a,k<=a->a<n->d∣divJ i m j F a a:=by
 intro m;induction m with
 |zero=>intro j F _ _ h;exact h
 |succ m e=>
  intro j F b f h;unfold divJ;refine e (j+1) _ oM oM ?_;split;exact h;exact zVe b c oM h
theorem zRA:∀(m j:Nat) (F:Nat->Nat->Int),i<j->j+m<=n->(∀l,i<l->l<j->F i i∣F l l)->∀l,i<l->l<j+m->divJ i m j F i i∣divJ i m j F l l:=by
 intro m;induction m with
 |zero=>intro j F _ _ h;exact h
 | succ m d=>
  intro j F b f h l a c;unfold divJ;refine d (j+1) _ oM oM ?_ l a oM;intro l a c;split
  .rename_i hd
   by_cases e:l=j
   .rw[e];exact hd
   exact h l a oM
  rw[zL6 b];by_cases e:l=j
  .rw[e,zL7];exact Int.dvd_mul_of_dvd_left (zBd ..)
  rw[zG9 oM oM];exact zEQ (zBd ..) (h l a oM)
theorem zVd:∀(m j:Nat) (F:Nat->Nat->Int),i<j->∀a b,a<i->divJ i m j F a b=F a b:=by
 intro m;induction m with
 |zero=>intro j F _ a b _;rfl
 |succ m c=>
  intro j F d a b h;unfold divJ;rw[c (j+1) _ oM a b h];split;rfl;exact zG9 oM oM
theorem zVb:∀(m i:Nat) (F:Nat->Nat->Int),∀a b,a<i->divI m i F a b=F a b:=by
 intro m;induction m with
 |zero=>intro i F a b _;rfl
 |succ m c=>
  intro i F a b h;unfold divI;rw[c (i+1) _ a b oM,zVd m (i+1) F oM a b h]
theorem zVa:∀(m i:Nat) (F:Nat->Nat->Int),i+m=n->k<=i->(∀a,k<=a->a<n->d∣F a a)->∀a,k<=a->a<n->d∣divI m i F a a:=by
 intro m;induction m with
 |zero=>intro i F _ _ h;exact h
 |succ m c=>
  intro i F e b h;unfold divI;exact c (i+1) _ oM oM (zVc b m (i+1) F oM oM h)
theorem zQ9:∀(m i:Nat) (F:Nat->Nat->Int),i+m=n->Chn i n (divI m i F):=by
 intro m;induction m with
 |zero=>intro i F h a b g f d;omega
 | succ m j=>
  intro i F h a b g f d;unfold divI;by_cases e:a=i
  .subst e
   rw[zVb m (a+1) _ a a oM];refine zVa (n:=n) (k:=a+1) m (a+1) _ oM (xgf _) (fun c o p=>?_) b oM d;exact zRA (n:=n) m (a+1) F oM oM (fun l q r=>by omega) c oM oM
  exact j (i+1) _ oM a b oM f d
def zQz(R C r:Nat)(A F:Nat->Nat->Int):Prop:=Dg R C r F/\∃u v w x,Rel R C A ⟨F,u,v,w,x⟩
theorem zQz.step(h:zQz R C r A F)(a:i<j)(b:j<min R C)(c:¬ F i i∣F j j):zQz R C r A (zI2 F i j):=by
 obtain⟨hd,u,v,w,x,d⟩:=h;obtain⟨f,g,k⟩:=hd.both a b c;obtain⟨s,t,e⟩:=qBV (x:=F i i) (y:=F j j) oM oM;have:=zVf d hd.off a b (fun h=>by dsimp only at h;rw[zB2]at h;omega) e;exact⟨hd.step a b c,_,_,_,_,this⟩
theorem zQz.divJ:∀(m j:Nat) (F:Nat->Nat->Int),i<j->j+m<=min R C->zQz R C r A F->zQz R C r A (divJ i m j F):=by
 intro m;induction m with
 |zero=>intro j F _ _ h;exact h
 |succ m c=>
  intro j F a d h;unfold Go.Proofs.YtkidaebmhlijlaaGreat.divJ;refine c (j+1) _ oM oM ?_;split;exact h;rename_i b;exact h.step a oM b
theorem zQz.divI:∀(m i:Nat) (F:Nat->Nat->Int),i+m<=min R C->zQz R C r A F->zQz R C r A (divI m i F):=by
 intro m;induction m with
 |zero=>intro i F _ h;exact h
 |succ m a=>
  intro i F b h;unfold Go.Proofs.YtkidaebmhlijlaaGreat.divI;exact a (i+1) _ oM (zQz.divJ m (i+1) F oM oM h)
def zVM(R C k:Nat)(A:Nat->Nat->Int)(g:Int):Prop:=∀σ τ:Nat->Nat,(∀a,a<k->σ a<R)->(∀a,a<k->τ a<C)->g∣det k fun a b=>A (σ a) (τ b)
def Fac(R C:Nat)(F G:Nat->Nat->Int):Prop:=∃P Q:Nat->Nat->Int,∀a,a<R->∀b,b<C->G a b=qS R fun s=>P a s*qS C fun t=>F s t*Q t b
theorem zVM.fac(h:zVM R C k F g)(j:Fac R C F G):zVM R C k G g:=by
 obtain⟨P,Q,e⟩:=j;intro c d l m;rw[zAs (G:=fun a b=>qS R fun s=>P (c a) s*qS C fun t=>F s t*Q t (d b)) fun a f b i=>e _ (l a f) _ (m b i)];exact zF6 (P:=fun a s=>P (c a) s) (Q:=fun t b=>Q t (d b)) h
theorem Rel.facTo{z:W5}(h:Rel R C A z):Fac R C A z.s:=⟨z.u,fun t b=>z.w b t,h.s⟩
theorem Rel.facFrom{z:W5}(h:Rel R C A z):Fac R C z.s A:=⟨fun a s=>z.v s a,fun t b=>z.x t b,h.back⟩
theorem zV8{P:Nat->Prop}:∀f,P f->∃f,P f/\∀g,P g->f<=g:=by
 intro f;induction f using Nat.strongRecOn with
 | ind f i=>
  intro c;by_cases h:∃g,g<f/\P g
  .obtain⟨g,a,b⟩:=h
   exact i g a b
  exact⟨f,c,fun g d=>zAC fun e=>h ⟨g,e,d⟩⟩
theorem Dg.minors(h:Dg R C r F)(hc:Chn 0 (min R C) F)(H:k<=min R C):zVM R C k F (jB k fun i=>F i i):=by
 refine fun j l n o=>zGA (R:=R) (C:=C) (fun j l n o s v=>?_) j l n o
 by_cases q:∀a,a<k->j a=l a
 .rw[zEM fun a g b f A=>?_]
  .refine zHy fun i p=>?_
   rw[<-q i p];have t:=s.le i p;have d:=n i p;have x:=o i p;rw[<-q i p]at x;rcases zK i (j i)with h4|h4
   exact hc i (j i) (zH _) h4 oM;rw[show j i=i by omega];exact zAh _
  refine h.off _ (n a g) _ (o b f) ?_;rw[<-q b f];have:=s.lt a b A f;omega
 -- the first place where they differ
 have D:∃a,(a<k/\j a≠l a)/\∀b,b<a->b<k->j b=l b:=by
  obtain⟨a,g⟩:=Classical.not_forall.1 q;obtain⟨y,z⟩:=Classical.not_imp.1 g;obtain⟨m,E,G⟩:=zV8 (P:=fun a=>a<k/\j a≠l a) a ⟨y,z⟩;exact⟨m,E,fun b f B=>zR fun w=>by
   have:=G b ⟨B,w⟩;omega⟩
 obtain⟨a,⟨g,w⟩,u⟩:=D;rcases zK (j a) (l a)with t|t
 .rw[zCe g fun b f=>?_]
  .exact zCW _
  refine h.off _ (n a g) _ (o b f) fun e=>?_
  rcases yS b a with d|d|d
  .have:=s.lt b a d g
   rw[u b d f]at this;omega
  subst d;omega;have:=v.lt a b d f;omega
 rw[zIl (c:=a) g fun b f=>?_];exact zCW _;refine h.off _ (n b f) _ (o a g) fun e=>?_
 rcases yS b a with d|d|d
 .have:=v.lt b a d g
  rw[<-u b d f]at this;omega
 subst d;omega;have:=s.lt a b d f;omega
theorem Dg.gen(h:Dg R C r F)(j:k<=min R C)(d:zVM R C k F g):g∣jB k fun i=>F i i:=by
 have:=d (fun a=>a) (fun a=>a) (fun a c=>by omega) (fun a c=>by omega);rwa[zEM fun a c b f e=>h.off a oM b oM oM]at this
structure Inv(R C r:Nat)(A F:Nat->Nat->Int):Prop where
 dg:Dg R C r F
 chn:Chn 0 (min R C) F
 fwd:Fac R C A F
 bwd:Fac R C F A
theorem Inv.minors(h:Inv R C r A F)(a:k<=min R C):zVM R C k A (jB k fun i=>F i i):=(h.dg.minors h.chn a).fac h.bwd
theorem Inv.gen(h:Inv R C r A F)(a:k<=min R C)(b:zVM R C k A g):g∣jB k fun i=>F i i:=h.dg.gen a (b.fac h.fwd)
theorem Dg.nonneg(h:Dg R C r F)(a:i<min R C):0<=F i i:=by
 rcases zK i r with h1|h1
 have:=h.pos i h1;omega;rw[h.zero i h1 a];exact zEB _
theorem zNn(h:∀i,i<n->0<=f i):0<=jB n f:=by
 induction n with
 |zero=>exact zBQ Int.one_pos
 |succ n a=>exact Int.mul_nonneg (a fun i b=>h i oM) (h n oM)
theorem Dg.prod_nonneg(h:Dg R C r F)(b:k<=min R C):0<=jB k fun i=>F i i:=zNn fun i a=>h.nonneg oM
theorem qAX(hF:Dg R C r F)(a:Dg R C r' G)(h:∀k,k<=min R C->jB k (fun i=>F i i)=jB k (fun i=>G i i)):r=r'/\∀i,i<min R C->F i i=G i i:=by
 have d:∀{r r':Nat} {F G:Nat->Nat->Int},Dg R C r F->Dg R C r' G->(∀k,k<=min R C->jB k (fun i=>F i i)=jB k (fun i=>G i i))->r<=r':=fun {r r' F G} hF a h=>by
  refine zAC fun n=>?_
  have h1:=h (r'+1) (by have:=hF.le;omega);have g:0<jB (r'+1) (fun i=>F i i):=zAT fun i b=>hF.pos i oM
  rw[h1,zLe (f:=fun i=>G i i) (c:=r') oM (a.zero r' (xgf _) (by have:=hF.le;omega))]at g;omega
 have e:r=r':=zCz (d hF a h) (d a hF fun k l=>(h k l).symm);subst e;refine⟨rfl,fun i b=>?_⟩;rcases zK i r with h1|h1
 exact zHb (r:=r) (fun i b=>a.pos i b) (fun j m=>h j (by have:=hF.le;omega)) i h1;rw[hF.zero i h1 b,a.zero i h1 b]
theorem Inv.unique{B:Nat->Nat->Int}(hF:Inv R C r A F)(b:Inv R C r' B G)(h:∀k,k<=min R C->∀g,zVM R C k A g↔zVM R C k B g):r=r'/\∀i,i<min R C->F i i=G i i:=
 qAX hF.dg b.dg fun k a=>zDV (hF.dg.prod_nonneg a) (b.dg.prod_nonneg a) (b.gen a ((h k a _).1 (hF.minors a))) (hF.gen a ((h k a _).2 (b.minors a)))
theorem Inv.unique_fac{B:Nat->Nat->Int}(hF:Inv R C r A F)(a:Inv R C r' B G)(h1:Fac R C A B)(h2:Fac R C B A):r=r'/\∀i,i<min R C->F i i=G i i:=
 hF.unique a fun k _ g=>⟨fun h=>h.fac h1,fun h=>h.fac h2⟩
theorem Inv.of_relS(h:zQz R C r A F)(hc:Chn 0 (min R C) F):Inv R C r A F:=by
 obtain⟨hd,u,v,w,x,a⟩:=h;exact⟨hd,hc,a.facTo,a.facFrom⟩
theorem zZG:∃n:Nat,n=8796093022208:=⟨_,rfl⟩
noncomputable def EB:Nat:=zZG.choose
theorem zXo:EB=8796093022208:=zZG.choose_spec
noncomputable def BB:Nat:=2^EB
theorem zZT:∃n:Nat,n=2^120:=⟨_,rfl⟩
noncomputable def SW:Nat:=zZT.choose
theorem zL2:SW=2^120:=zZT.choose_spec
theorem zF5:1<=SW:=by rw[zL2];decide+kernel
theorem zYh{E t:Nat}(a:2*T=2^t)(d:e=120+(t*K+t*K)*(N+2)+(t+t)*(N+1))(b:e<E):SW*(((2*T)^K*(2*T)^K)^(N+2))*(4*T*T)^(N+1)<2^E:=by
 have c:4*T*T=2^(t+t):=by rw[yM,<-a,Nat.mul_mul_mul_comm,zE]
 rw[c,a,zL2,<-jT,<-jT,<-yM,<-jT,<-yM,<-yM,<-d];exact Nat.pow_lt_pow_right oM b
theorem zYo{t:Nat}(b:T=2^t)(c:t=497)(a:N=1939):SW*((GE T*GE T)^(N+2))*(4*T*T)^(N+1)<BB:=by
 refine zYh (T:=T) (N:=N) (K:=KE) (E:=EB) (t:=t+1) (e:=120+((t+1)*KE+(t+1)*KE)*(N+2)+((t+1)+(t+1))*(N+1)) ?_ rfl ?_;rw[b,zN];exact(qE 2 t).symm;rw[a,zXo,c];unfold KE;omega
theorem zUq{z:W5}(u:R<=4)(H:C<=4)(o:leM SW R C z.s)(x:leM 1 R Cu z.u)(hv:leM 1 R Cu z.v)(A:leM 1 C Cw z.w)(B:leM 1 C Cw z.x):
  ∃f rr L r,zIV BB R C Cu Cw f rr z=some (rnds L z)/\okL R C L/\okW BB R C Cu Cw z/\Dg R C r (rnds L z).s/\∀y,zOR (min R C) (rnds L z) y->okW BB R C Cu Cw y/\∀i j,i<j->j<min R C->¬ y.s i i∣y.s j j->zSd BB C Cu Cw y i j:=by
 have J:leW SW R C Cu Cw z:=⟨o,x.mono zF5,hv.mono zF5,A.mono zF5,B.mono zF5⟩;obtain⟨t,b⟩:∃t:Nat,t=497:=⟨_,rfl⟩;obtain⟨T,a⟩:∃T:Nat,T=2^t:=⟨_,rfl⟩;obtain⟨N,m⟩:∃N:Nat,N=1939:=⟨_,rfl⟩;have M:24*(8*SW)^4<=T:=by rw[a,b,zL2];decide+kernel
 have q:(24*SW^4)^4<2^N:=by rw[m,zL2];decide+kernel
 have I:24*SW^4<=T:=by rw[a,b,zL2];decide+kernel
 have g:1<=T:=by rw[a,b];decide+kernel
 have w:=zYo a b m;clear a m b;have K:1<=(4*T*T)^(N+1):=qG (qM oM g);have l:SW*((GE T*GE T)^(N+2))<BB:=zI (zO _ K) w;have n:1<=(GE T*GE T)^(N+2):=qG (qM (zJX g) (zJX g));obtain⟨f,rr,L,r,E,F,c,k,G,p⟩:=zWb (h:=SW) u H zF5 o rfl J zF5 M q l;have v:=k.dg G;have O:mu r (rnds L z).s<2^N:=by
  have:=zZr (zD k.le u) k p (qM dE (qG zF5));have e:(((24*SW^4)^4:Nat):Int)<((2^N:Nat):Int):=Int.ofNat_lt.2 q;have D:((2^N:Nat):Int)=(2:Int)^N:=by rw[zCx];rfl
  exact Int.lt_of_le_of_lt this (D ▸ e)
 have d:1<BB:=zI (zD zF5 (zO _ n)) l;refine⟨f,rr,L,r,E,F,⟨o.ok (zI (zO _ n) l),x.ok d,hv.ok d,A.ok d,B.ok d⟩,v,fun y P=>?_⟩;exact zX3 (zD p I) g (qM zF5 n) v c.u c.v c.w c.x O w P
def cor(R C:Nat)(x y:Int):Nat->Nat->Int:=fun a b=>if a=R-1/\b=0 then x else if a=0/\b=C-1 then y else 0
end Go.Proofs.YtkidaebmhlijlaaGreat
