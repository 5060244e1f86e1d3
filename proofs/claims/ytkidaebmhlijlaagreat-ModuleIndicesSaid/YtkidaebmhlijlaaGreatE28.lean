/- Joined. -/
import Derived.Test.YtkidaebmhlijlaaGreatE21
import Derived.Test.YtkidaebmhlijlaaGreatE25
set_option linter.unusedVariables false
set_option linter.unusedSimpArgs false
set_option linter.unusedSectionVars false
set_option maxHeartbeats 16000000
set_option maxRecDepth 100000
variable{L L':(Nat->Int)->Prop}{cs:Array Go.Value}{M:List (List Int)}{C N R a b h k m m' n p q r:Nat}{f x y:Nat->Int}{c c':Nat->Nat}{A B F G G' H K P Q U V X:Nat->Nat->Int}{v:Go.Value}{w w':Go.World}
namespace Go.Proofs.YtkidaebmhlijlaaGreat
open Go.RowKit
def yD(m C:Nat)(A:Nat->Nat->Int)(x:Nat->Int):Prop:=∃y:Nat->Int,∀b,b<C->x b=qS m fun a=>y a*A a b
def zOS(R C:Nat)(A:Nat->Nat->Int)(x:Nat->Int):Prop:=∀b,b<C->(qS R fun a=>x a*A a b)=0
def qAV(R C:Nat)(A:Nat->Nat->Int)(x:Nat->Int):Prop:=∀y:Nat->Int,(∀a,a<R->(qS C fun b=>A a b*y b)=0)->(qS C fun b=>x b*y b)=0
structure HB(C m:Nat)(G:Nat->Nat->Int)(L:(Nat->Int)->Prop):Prop where
 hnf:∃c,Hnf C m m c G
 iff:∀x,L x↔yD m C G x
theorem yD.row(A:Nat->Nat->Int)(c:a<m):yD m C A (A a):=
 ⟨fun t=>if t=a then 1 else 0,fun b _=>by rw[zBA c (fun i _ d=>by dsimp only;rw[zA d,yK])];dsimp only;rw[zB rfl,zAG]⟩
theorem yD.sub(h:∀a,a<m->yD m' C G (A a))(g:yD m C A x):yD m' C G x:=by
 obtain⟨y,i⟩:=g;have d:∀a,∃Y:Nat->Int,a<m->∀b,b<C->A a b=qS m' fun t=>Y t*G t b:=fun a=>by
  by_cases c:a<m
  .obtain⟨Y,h⟩:=h a c
   exact⟨Y,fun _=>h⟩
  exact⟨fun _=>0,fun h=>absurd h c⟩
 refine⟨fun t=>qS m fun a=>y a*(d a).choose t,fun b f=>?_⟩;rw[i b f];have e:(qS m fun a=>y a*A a b)=qS m fun a=>qS m' fun t=>y a*(d a).choose t*G t b:=zL fun a c=>by
  rw[(d a).choose_spec c b f,<-jK];exact zL fun t _=>by rw[qA]
 rw[e,zBs];exact zL fun t _=>zC9 _ _ _
theorem yD.congr(h:∀a,a<m->∀b,b<C->A a b=B a b)(x:Nat->Int):yD m C A x↔yD m C B x:=by
 constructor<;>(rintro⟨y,e⟩;refine⟨y,fun b c=>(e b c).trans (zL fun a d=>by rw[h a d b c])⟩)
theorem zOS.congr(h:∀a,a<R->∀b,b<C->A a b=B a b)(x:Nat->Int):zOS R C A x↔zOS R C B x:=by
 constructor<;>(intro e b c;rw[<-e b c];exact zL fun a d=>by rw[h a d b c])
def zVO(m:Nat)(G:Nat->Nat->Int):Nat->Nat->Int:=fun a b=>if a<m then G a b else 0
theorem zT7(h:Hnf C m m c G)(p:m<=n):Hnf C n m c (zVO m G):=by
 have e:∀a,a<m->∀b,zVO m G a b=G a b:=fun a o b=>zB o
 exact⟨p,⟨h.ech.lt,fun k d=>by rw[e k d];exact h.ech.pos k d,fun k d t q=>by rw[e k d];exact h.ech.zero k d t q,h.ech.inc⟩,
  fun i j f g l=>by rw[e i oM,e j g];exact h.red i j f g l,fun a f _ t _=>zA oM⟩
theorem zQU(f:m<=n)(h:∀a,a<m'->yD m C G (G' a)):zKl n C (zVO m G) (zVO m' G'):=by
 have d:∀a,∃Y:Nat->Int,a<m'->∀b,b<C->G' a b=qS m fun t=>Y t*G t b:=fun a=>by
  by_cases c:a<m'
  .obtain⟨Y,h⟩:=h a c
   exact⟨Y,fun _=>h⟩
  exact⟨fun _=>0,fun h=>absurd h c⟩
 refine⟨fun a t=>if a<m' then(d a).choose t else 0,fun a _ b e=>?_⟩;rw[zE4 f (fun t i _=>by rw[show zVO m G t b=0 from zA oM,qB])];by_cases c:a<m'
 .rw[show zVO m' G' a b=G' a b from zB c,(d a).choose_spec c b e]
  exact zL fun t g=>by dsimp only;rw[zB c,show zVO m G t b=G t b from zB g]
 rw[show zVO m' G' a b=0 from zA c];exact(zBt fun t _=>by dsimp only;rw[zA c,yK]).symm
theorem HB.eq(h:HB C m G L)(f:HB C m' G' L')(e:∀x,L x↔L' x):m=m'/\∀a,a<m->∀b,b<C->G' a b=G a b:=by
 obtain⟨c,k⟩:=h.hnf;obtain⟨c',l⟩:=f.hnf;have n:∀a,a<m'->yD m C G (G' a):=fun a d=>(h.iff _).1 ((e _).2 ((f.iff _).2 (yD.row G' d)))
 have o:∀a,a<m->yD m' C G' (G a):=fun a d=>(f.iff _).1 ((e _).1 ((h.iff _).2 (yD.row G d)))
 obtain⟨g,-,i⟩:=zRK (zT7 k (zDX m m')) (zT7 l (Nat.le_add_left m' m)) (zQU (zDX m m') n) (zQU (Nat.le_add_left m' m) o);refine⟨g,fun a d b j=>?_⟩;have:=i a oM b j;rwa[show zVO m' G' a b=G' a b from zB oM,show zVO m G a b=G a b from zB d]at this
theorem HB.mat(h:HB C m G L)(d:HB C m' G' L')(e:∀x,L x↔L' x):m=m'/\genM m C G=genM m' C G':=by
 obtain⟨rfl,c⟩:=h.eq d e;exact⟨rfl,jX fun a f b g=>(c a f b g).symm⟩
theorem HB.of(h:HB C m G L)(e:∀x,L x↔L' x):HB C m G L':=⟨h.hnf,fun x=>(e x).symm.trans (h.iff x)⟩
theorem zJY.hb(h:zJY R C r c A H):HB C r H (yD R C A):=by
 refine⟨⟨c,xgf _,h.hnf.ech,h.hnf.red,fun a g i=>oM⟩,fun x=>⟨yD.sub fun a f=>?_,yD.sub fun a f=>?_⟩⟩
 .obtain⟨X,d⟩:=h.hnf.span h.sp
  exact⟨X a,fun b e=>d a f b e⟩
 obtain⟨X,d⟩:=h.sp';exact⟨X a,fun b e=>d a (by have:=h.hnf.le;omega) b e⟩
theorem zUu(b:r<=R)(h:∀t,t<r->f t=0):qS R f=qS (R-r) fun a=>f (r+a):=by
 obtain⟨d,rfl⟩:=zAV b;rw[zAo];clear b;induction d with
 |zero=>exact zBt h
 |succ d c=>show qS (r+d) f+f (r+d)=_;rw[c];rfl
theorem zZu{w:Nat->Int}(hd:det r F≠0)(h:∀b,b<r->(qS r fun t=>w t*F t b)=0):∀j,j<r->w j=0:=fun j a=>by
 have f:det r (zKk F j fun b=>qS r fun t=>w t*F t b)=0:=zCe a fun b g=>by unfold zKk;rw[zB rfl];exact h b g
 rw[zG8 a,zBA a (fun t i k=>?_),zUk]at f
 .rcases Int.mul_eq_zero.1 f with e|e
  .exact e
  exact absurd e hd
 have:det r (zKk F j (F t))=0:=by
  rcases zK t j with h2|h2
  exact zGR h2 a fun b=>by unfold zKk;rw[zB rfl,zA oM]
  exact zGR (c:=j) (d:=t) oM i fun b=>by unfold zKk;rw[zB rfl,zA oM]
 rw[this,qB]
theorem zTc(h:∀a,a<n->∀b,b<n->qS n (fun t=>U a t*V t b)=idf a b):∀a,a<n->∀b,b<n->qS n (fun t=>V a t*U t b)=idf a b:=by
 obtain⟨r,q,hd⟩:=zP5 h;have m:det n V≠0:=fun l=>by
  have:=zHZ (A:=V) r (fun b=>b) q fun a d=>d
  rw[l]at this;exact hd (Int.zero_dvd.1 this)
 intro a d b o;have:=zZu (w:=fun b=>qS n (fun t=>V a t*U t b)-idf a b) m (fun c g=>by
  have i:(qS n fun t=>(qS n (fun s=>V a s*U s t)-idf a t)*V t c)=(qS n fun t=>qS n (fun s=>V a s*U s t)*V t c)+-1*qS n fun t=>idf a t*V t c:=by
   rw[<-jK,<-zBw];exact zL fun t _=>by rw[zED];omega
  have j:(qS n fun t=>qS n (fun s=>V a s*U s t)*V t c)=V a c:=by
   have:(qS n fun t=>qS n (fun s=>V a s*U s t)*V t c)=qS n fun t=>qS n fun s=>V a s*(U s t*V t c):=zL fun t _=>by
    rw[<-zC9];exact zL fun s _=>qA _ _ _
   rw[this,zBs];have:(qS n fun s=>qS n fun t=>V a s*(U s t*V t c))=qS n fun s=>V a s*idf s c:=zL fun s p=>by rw[jK,h s p c g]
   rw[this,zBA g (fun s _ f=>by rw[show idf s c=0 from zA f,qB]),show idf c c=1 from zB rfl,zAl]
  have k:(qS n fun t=>idf a t*V t c)=V a c:=by
   rw[zBA d (fun s _ f=>by rw[show idf a s=0 from zA (fun e=>f e.symm),yK]),show idf a a=1 from zB rfl,zAG]
  show(qS n fun t=>(qS n (fun s=>V a s*U s t)-idf a t)*V t c)=0;rw[i,j,k];omega) b o
 omega
def zOc(r:Nat)(U:Nat->Nat->Int):Nat->Nat->Int:=fun a b=>U (r+a) b
theorem zGM(x:Nat->Int)(F:Nat->Nat->Int)(y:Nat->Int):(qS m fun t=>qS n (fun s=>x s*F s t)*y t)=qS n fun s=>x s*qS m fun t=>F s t*y t:=by
 have:(qS m fun t=>qS n (fun s=>x s*F s t)*y t)=qS m fun t=>qS n fun s=>x s*(F s t*y t):=zL fun t _=>by
  rw[<-zC9];exact zL fun s _=>qA _ _ _
 rw[this,zBs];exact zL fun s _=>jK _ _ _
theorem zEh.ker(h:zEh R C r c A H U V)(x:Nat->Int):yD (R-r) R (zOc r U) x↔zOS R C A x:=by
 have l:=h.hnf.le;constructor
 .rintro⟨y,D⟩ b d
  have e:(qS R fun a=>x a*A a b)=qS R fun a=>qS (R-r) (fun s=>y s*zOc r U s a)*A a b:=zL fun a q=>by rw[D a q]
  rw[e,zGM];refine zBt fun s g=>?_
  have:=h.mul (r+s) oM b d;rw[h.hnf.zero (r+s) oM oM b d]at this;rw[show(qS R fun t=>zOc r U s t*A t b)=0 from this.symm,qB]
 intro B;obtain⟨z,m⟩:∃z:Nat->Int,∀t,z t=qS R fun s=>x s*V s t:=⟨_,fun _=>rfl⟩
 have n:∀b,b<C->(qS r fun t=>z t*H t b)=0:=fun b d=>by
  rw[<-zE4 l (fun t o p=>by rw[h.hnf.zero t o p b d,qB])];have e:(qS R fun t=>z t*H t b)=qS R fun t=>qS R (fun s=>x s*V s t)*H t b:=zL fun t _=>by rw[m]
  rw[e,zGM,<-B b d];exact zL fun s g=>by rw[h.back s g b d]
 have E:∀t,t<r->z t=0:=by
  refine fun t j=>zR fun i=>?_
  obtain⟨u,k,v,w⟩:=zJF ⟨t,j,i⟩;have f:=zL5 h.hnf.ech k w;rw[n _ (h.hnf.ech.lt u k)]at f;rcases Int.mul_eq_zero.1 f.symm with h3|h3
  exact v h3;have:=h.hnf.ech.pos u k;omega
 refine⟨fun a=>z (r+a),fun b d=>?_⟩;have e:(qS R fun t=>z t*U t b)=x b:=by
  have f:(qS R fun t=>z t*U t b)=qS R fun t=>qS R (fun s=>x s*V s t)*U t b:=zL fun t _=>by rw[m]
  rw[f,zGM,zBA d (fun s g i=>by rw[zTc h.inv s g b d,show idf s b=0 from zA i,qB]),zTc h.inv b d b d,show idf b b=1 from zB rfl,zAl]
 rw[<-e,zUu l (fun t j=>by rw[E t j,yK])];rfl
def zDk(k R C:Nat)(A:Nat->Nat->Int):Prop:=∃σ τ:Nat->Nat,(∀a,a<k->σ a<R)/\(∀a,a<k->τ a<C)/\det k (fun a b=>A (σ a) (τ b))≠0
theorem zDk.tr(h:zDk k R C A):zDk k C R (trF A):=by
 obtain⟨e,f,b,c,d⟩:=h;refine⟨f,e,c,b,fun a=>d ?_⟩;rw[<-zDG,<-a];rfl
theorem zKV(h:∀a,a<R->∀b,b<C->F a b=qS q fun t=>X a t*G t b)(m:zDk k R C F):k<=q:=by
 obtain⟨e,c,n,o,hd⟩:=m;refine zAC fun s=>hd ?_
 have f:(0:Int)∣det k fun a b=>qS q fun t=>X (e a) t*G t (c b):=zC6 (P:=fun a t=>X (e a) t) (F:=fun t b=>G t (c b)) fun g d=>by
  refine zDe (R:=q) (F:=fun t b=>G t (c b)) (fun g d l=>?_) g d;have p:=l.le (k-1) oM;have r:=d (k-1) oM;omega
 rw[zAs (G:=fun a b=>F (e a) (c b)) fun a i b j=>(h _ (n a i) _ (o b j)).symm]at f;exact Int.zero_dvd.1 f
theorem zDk.of_mul(h:∀a,a<R->∀b,b<C->F a b=qS q fun t=>X a t*G t b)(m:zDk k R C F):zDk k q C G:=by
 obtain⟨d,c,p,f,hd⟩:=m;refine zR fun n=>hd ?_
 have e:(0:Int)∣det k fun a b=>qS q fun t=>X (d a) t*G t (c b):=zC6 (P:=fun a t=>X (d a) t) (F:=fun t b=>G t (c b)) fun g o=>by
  have:det k (fun a b=>G (g a) (c b))=0:=zR fun i=>n ⟨g,c,o,f,i⟩
  rw[this];exact zAh 0
 rw[zAs (G:=fun a b=>F (d a) (c b)) fun a j b l=>(h _ (p a j) _ (f b l)).symm]at e;exact Int.zero_dvd.1 e
theorem zDk.cols(d:zDk k R C A):k<=C:=by
 refine zKV (q:=C) (X:=A) (G:=idf) (C:=C) (fun a _ b c=>?_) d;rw[zBA c (fun t _ e=>by rw[show idf t b=0 from zA e,qB]),show idf b b=1 from zB rfl,zAl]
theorem zMg(h:∀i,i<n->f i≠0):jB n f≠0:=by
 induction n with
 |zero=>exact(show(1:Int)≠0 by decide)
 |succ n b=>
  intro a;rcases Int.mul_eq_zero.1 (show jB n f*f n=0 from a)with h1|h1
  exact b (fun i c=>h i oM) h1;exact h n oM h1
theorem Ech.min1(h:Ech C r c H):zDk r r C H:=by
 refine⟨fun a=>a,c,fun a d=>d,h.lt,?_⟩;rw[zF7 fun a d b g e=>h.zero a d _ (h.inc b a e d)];exact zMg fun i f=>by have:=h.pos i f;omega
theorem zJY.min1(h:zJY R C r c A H):zDk r R C A:=by
 obtain⟨X,d⟩:=h.sp';exact zDk.of_mul (F:=H) (fun a f b e=>d a (by have:=h.hnf.le;omega) b e) h.hnf.ech.min1
theorem zJY.rank(h:zJY R C r c A H)(b:zDk k R C A):k<=r:=by
 obtain⟨X,a⟩:=h.hnf.span h.sp;exact zKV a b
theorem HB.min1(h:HB C m G L):zDk m m C G:=by
 obtain⟨c,a⟩:=h.hnf;exact a.ech.min1
theorem zD4(h:∀a,a<p->yD q C G (F a)):∃X:Nat->Nat->Int,∀a,a<p->∀b,b<C->F a b=qS q fun t=>X a t*G t b:=by
 have d:∀a,∃Y:Nat->Int,a<p->∀b,b<C->F a b=qS q fun t=>Y t*G t b:=fun a=>by
  by_cases c:a<p
  .obtain⟨Y,h⟩:=h a c
   exact⟨Y,fun _=>h⟩
  exact⟨fun _=>0,fun h=>absurd h c⟩
 exact⟨fun a=>(d a).choose,fun a c=>(d a).choose_spec c⟩
theorem zHd(h:zEh R C r c A H U V)(f:HB R m G (zOS R C A)):m+r=R:=by
 have u:=h.hnf.le;have hK:zDk (R-r) (R-r) R (zOc r U):=by
  have i:∀a,a<R-r->∀b,b<R-r->(qS R fun t=>zOc r U a t*V t (r+b))=idf a b:=fun a d b f=>by
   have:=h.inv (r+a) oM (r+b) oM;show(qS R fun t=>U (r+a) t*V t (r+b))=_;rw[this];unfold idf;by_cases e:a=b
   .rw[zB e,zB oM]
   rw[zA e,zA oM]
  refine zR fun o=>?_
  have g:(0:Int)∣det (R-r) fun a b=>qS R fun t=>zOc r U a t*V t (r+b):=zEw (F:=zOc r U) (Q:=fun t b=>V t (r+b)) fun j s=>by
   have:det (R-r) (fun a b=>zOc r U a (j b))=0:=zR fun k=>o ⟨fun a=>a,j,fun a d=>d,s,k⟩
   rw[this];exact zAh 0
  rw[zAs (G:=idf) i,zS5]at g;have:=Int.zero_dvd.1 g;omega
 obtain⟨X,l⟩:=zD4 (F:=zOc r U) (G:=G) (p:=R-r) (q:=m) (C:=R) fun a d=>(f.iff _).1 ((h.ker _).1 (yD.row _ d))
 obtain⟨Y,n⟩:=zD4 (F:=G) (G:=zOc r U) (p:=m) (q:=R-r) (C:=R) fun a d=>(h.ker _).2 ((f.iff _).2 (yD.row _ d))
 have i:=zKV l hK;have g:=zKV n f.min1;omega
theorem zJ9(h:¬ zDk k R C A):¬ zDk (k+1) (R+1) C A:=by
 rintro⟨c,d,i,x,hd⟩;refine hd (Int.zero_dvd.1 ?_);have s:∀c d:Nat->Nat,(∀a,a<k->c a<R)->(∀a,a<k->d a<C)->det k (fun a b=>A (c a) (d b))=0:=fun c d m o=>zR fun t=>h ⟨c,d,m,o,t⟩
 refine zDe (R:=R+1) (F:=fun a b=>A a (d b)) (fun c i u=>?_) c i;have v:∀a,a<k->c a<R:=fun a g=>by
  have m:=u.lt a k g oM;have o:=i k oM;omega
 obtain⟨q,w,p⟩:∃q:Nat->Nat,q 0=c k/\∀a,q (a+1)=c a:=⟨fun a=>if a=0 then c k else c (a-1),rfl,fun a=>rfl⟩;have r:det (k+1) (fun a b=>A (q a) (d b))=0:=by
  rw[zC0];refine zBt fun j y=>?_
  have:det k (mnr (fun a b=>A (q a) (d b)) 0 j)=0:=by
   have:=s c (fun b=>d (sk j b)) v fun b f=>x _ (zSD f)
   rw[<-this];exact zAs fun a _ b _=>by
    show A (q (sk 0 a)) (d (sk j b))=_;rw[zEp,p]
  rw[this,qB,qB]
 have l:=zHZ (n:=k+1) (A:=fun a b=>A (q a) (d b)) (fun a=>if a=k then 0 else a+1) (fun b=>b) (fun a g=>by split<;>omega) fun b f=>f
 rw[r]at l;rw[show det (k+1) (fun a b=>A (c a) (d b))=det (k+1) (fun a b=>A (q (if a=k then 0 else a+1)) (d b)) from zAs fun a g b f=>by
  by_cases e:a=k
  .rw[zB e,w,e]
  rw[zA e,p]]
 exact l
theorem zDk.down(h:zDk (k+1) R C A):zDk k R C A:=zR fun e=>by
 refine zJ9 e ?_;obtain⟨f,g,a,b,c⟩:=h;exact⟨f,g,fun i d=>by have:=a i d;omega,b,c⟩
theorem zWh{c:Nat}(hc:c<n)(x:Int)(f:Nat->Int):(qS n fun s=>(if c=s then x else 0)*f s)=x*f c:=by
 rw[zBA hc (fun i _ a=>by rw[zA (fun e=>a e.symm),yK]),zB rfl]
theorem zTd(h1:1<=h)(hN:N<=5∨C<=4):∀R,R<=N->leM h R C A->∃r m,∃(ρ:Nat->Nat) (W:Nat->Nat->Int),m+r=R/\zDk r R C A/\¬ zDk (r+1) R C A∧
  (∀i,i<m->ρ i<R/\W i (ρ i)≠0/\(∀t,ρ i<t->W i t=0)/\zOS R C A (W i)/\∀t,(W i t).natAbs<=N*(24*h^4))/\∀i j,i<j->j<m->ρ i<ρ j:=by
 intro R;induction R with
 |zero=>
  intro _ _;refine⟨0,0,fun _=>0,fun _ _=>0,rfl,⟨fun a=>a,fun a=>a,fun a v=>oM,fun a v=>oM,show(1:Int)≠0 by decide⟩,?_,fun i d=>oM,fun i j _ L=>oM⟩;rintro⟨p,g,z,-,-⟩;have:=z 0 oM;omega
 | succ R ih=>
  intro hR J;obtain⟨r,m,ρ,W,e1,E,hn,K,P⟩:=ih oM fun a v b o=>J a oM b o
  have up:zDk r (R+1) C A:=by
   obtain⟨p,g,a,b,c⟩:=E;exact⟨p,g,fun i d=>by have:=a i d;omega,b,c⟩
  have S:∀i,i<m->ρ i<R+1/\W i (ρ i)≠0/\(∀t,ρ i<t->W i t=0)/\zOS (R+1) C A (W i)/\∀t,(W i t).natAbs<=N*(24*h^4):=fun i d=>by
   obtain⟨T,U,H,V,X⟩:=K i d;refine⟨oM,U,H,fun b o=>?_,X⟩;show(qS R fun a=>W i a*A a b)+W i R*A R b=0;rw[V b o,H R T,yK];rfl
  by_cases G:zDk (r+1) (R+1) C A
  .exact⟨r+1,m,ρ,W,oM,G,zJ9 hn,S,P⟩
  have a9:r<=4:=by
   have:=E.cols;omega
  obtain⟨p,g,z,Q,hd⟩:=E;obtain⟨q,O,F⟩:∃q:Nat->Nat,q 0=R/\∀a,q (a+1)=p a:=⟨fun a=>if a=0 then R else p (a-1),rfl,fun a=>rfl⟩;have x:∀i,i<r+1->q i<R+1:=fun i d=>by
   cases i with
   |zero=>rw[O];omega
   |succ i=>rw[F];have:=z i oM;omega
  have a8:∀i,i<r+1->i≠0->q i<R:=fun i d M=>by
   cases i with
   |zero=>omega
   |succ i=>rw[F];exact z i oM
  obtain⟨l,D⟩:∃l:Nat->Int,∀i,l i=sg1 i*det r fun a b=>A (q (sk i a)) (g b):=⟨_,fun _=>rfl⟩
  obtain⟨w,y⟩:∃w:Nat->Int,∀s,w s=qS (r+1) fun i=>if q i=s then l i else 0:=⟨_,fun _=>rfl⟩
  have a0:l 0≠0:=by
   rw[D];have:(det r fun a b=>A (q (sk 0 a)) (g b))=det r fun a b=>A (p a) (g b):=zAs fun a _ b _=>by rw[zEp,F]
   rw[this];simpa[sg1]using hd
  have b0:w R=l 0:=by
   rw[y,zBA (c:=0) oM (fun i d M=>by rw[zA (by have:=a8 i d M;omega)]),zB O]
  have a7:zOS (R+1) C A w:=fun b o=>by
   have e:(qS (R+1) fun s=>w s*A s b)=qS (r+1) fun i=>l i*A (q i) b:=by
    have Y:(qS (R+1) fun s=>w s*A s b)=qS (R+1) fun s=>qS (r+1) fun i=>(if q i=s then l i else 0)*A s b:=zL fun s _=>by rw[y,<-zC9]
    rw[Y,zBs];exact zL fun i d=>zWh (x i d) (l i) fun s=>A s b
   rw[e];have u:det (r+1) (fun i j=>A (q i) (if j=0 then b else g (j-1)))=0:=zR fun u=>G ⟨q,fun j=>if j=0 then b else g (j-1),x,fun j L=>by
    dsimp only;split;exact o;exact Q _ oM,u⟩
   rw[zHY]at u;rw[<-u];refine zL fun i d=>?_
   have:det r (mnr (fun i j=>A (q i) (if j=0 then b else g (j-1))) i 0)=det r fun a I=>A (q (sk i a)) (g I):=zAs fun a _ I _=>by
    unfold mnr;dsimp only;rw[zEp,zA oM,Nat.add_sub_cancel]
   rw[this,D,zB rfl,qA,zZ (A (q i) b)]
  have Z:∀t,(w t).natAbs<=N*(24*h^4):=fun t=>by
   rw[y];have:=zD9 (n:=r+1) (f:=fun i=>if q i=t then l i else 0) (B:=24*h^4) fun i d=>by
    split
    .rw[D,zUl]
     exact zP4 a9 h1 fun a v b o=>J _ (x _ (zSD v)) _ (Q b o)
    exact zH _
   refine zD this ?_;exact zP _ oM
  refine⟨r,m+1,fun i=>if i=m then R else ρ i,fun i=>if i=m then w else W i,oM,up,G,fun i d=>?_,fun i j a6 L=>?_⟩
  .by_cases e:i=m
   .dsimp only
    rw[zB e,zB e];refine⟨oM,by rw[b0];exact a0,fun t ht=>?_,a7,Z⟩;rw[y];exact zBt fun k hk=>by rw[zA (by have:=x k hk;omega)]
   dsimp only;rw[zA e,zA e];exact S i oM
  dsimp only;rw[zA oM];by_cases e:j=m
  .rw[zB e];exact(K i oM).1
  rw[zA e];exact P i j a6 oM
theorem HB.bound{W:Nat->Nat->Int}(f:HB C m G L)(r:m<=4)(h1:1<=h)(p:leM h R C W)(o:∀a,a<R->L (W a))(q:zDk m R C W):leM (24*(8*h)^4) m C G:=by
 obtain⟨c,k⟩:=f.hnf;obtain⟨X,j⟩:=zD4 fun a d=>(f.iff _).1 (o a d)
 obtain⟨e,g,l,u,hd⟩:=q;refine zLF (X:=fun t a=>X a t) r h1 k.ech k.red p j l fun n=>hd ?_
 have i:(0:Int)∣det m fun a b=>qS m fun t=>X (e a) t*G t (g b):=zEw (F:=fun a t=>X (e a) t) (Q:=fun t b=>G t (g b)) fun v s=>by
  have:=zHZ (A:=fun a t=>X (e a) t) (fun a=>a) v (fun a d=>d) s;rw[show det m (fun a t=>X (e a) t)=0 from n]at this;exact this
 rw[zAs (G:=fun a b=>W (e a) (g b)) fun a d b f=>(j _ (l a d) _ (u b f)).symm]at i;exact Int.zero_dvd.1 i
theorem zOt(g:zEh R C r c A H U V)(j:HB R m G (zOS R C A))(u:N<=5∨C<=4)(v:0<N)(w:R<=N)(I:m<=4)(h1:1<=h)(t:leM h R C A):leM (24*(8*(N*(24*h^4)))^4) m R G:=by
 obtain⟨D,m',E,W,p,l,n,f,o⟩:=zTd h1 u R w t;have q:=zHd g j;have s:=g.lat.rank l;have F:r<=D:=zAC fun k=>by
  refine n ?_;have:=g.lat.min1;obtain⟨d,rfl⟩:=Nat.exists_eq_add_of_lt k;clear p q s k f o l n g;induction d with
  |zero=>exact this
  |succ d B=>exact B this.down
 obtain rfl:m'=m:=oM;refine j.bound (R:=m') (W:=W) oM (zD h1 (zD (Nat.le_pow oM) (zD (qQ _ (show 0<24 by omega)) (qQ _ v)))) (fun a e b _=>(f a e).2.2.2.2 b) (fun a e=>(f a e).2.2.2.1) ⟨fun a=>a,E,fun a e=>e,fun a e=>(f a e).1,?_⟩;rw[zEM fun a e b y x=>(f a e).2.2.1 _ (o a b x y)];exact zMg fun i z=>(f i z).2.1
def zCB(C:Nat)(L1 L2:(Nat->Int)->Prop)(x:Nat->Int):Prop:=∃u v:Nat->Int,L1 u/\L2 v/\∀b,b<C->x b=u b+v b
def zJA(R:Nat)(A B:Nat->Nat->Int):Nat->Nat->Int:=fun a b=>if a<R then A a b else B (a-R) b
theorem zJu{Q:Nat}{N:List (List Int)}(h:zBW R C M)(e:zBW Q C N)(b:Nat):ent (M++N) a b=zJA R (ent M) (ent N) a b:=by
 have d:M.length=R:=h.1;unfold zJA;by_cases c:a<R
 .rw[zB c]
  show((M++N).getD a []).getD b 0=(M.getD a []).getD b 0;rw[xgb (l:=M++N),List.getElem?_append_left oM,<-xgb]
 rw[zA c];show((M++N).getD a []).getD b 0=(N.getD (a-R) []).getD b 0;rw[xgb (l:=M++N),List.getElem?_append_right oM,d,<-xgb]
theorem zUv(R Q:Nat)(f:Nat->Int):qS (R+Q) f=qS R f+qS Q fun a=>f (R+a):=by
 induction Q with
 |zero=>exact(zAJ _).symm
 |succ Q b=>
  show qS (R+Q) f+f (R+Q)=qS R f+(qS Q (fun a=>f (R+a))+f (R+Q));rw[b,Int.add_assoc]
theorem zJO(R Q:Nat)(y:Nat->Int)(A B:Nat->Nat->Int)(b:Nat):(qS (R+Q) fun a=>y a*zJA R A B a b)=(qS R fun a=>y a*A a b)+qS Q fun a=>y (R+a)*B a b:=by
 rw[zUv];refine _root_.congr (congrArg _ (zL fun a c=>?_)) (zL fun a c=>?_)
 .unfold zJA
  rw[zB c]
 unfold zJA;rw[zA oM,zAo]
theorem yD.stk{Q:Nat}(x:Nat->Int):yD (R+Q) C (zJA R A B) x↔zCB C (yD R C A) (yD Q C B) x:=by
 constructor
 .rintro⟨y,d⟩
  exact⟨fun b=>qS R fun a=>y a*A a b,fun b=>qS Q fun a=>y (R+a)*B a b,⟨y,fun b _=>rfl⟩,⟨fun a=>y (R+a),fun b _=>rfl⟩,fun b c=>by rw[d b c,zJO]⟩
 rintro⟨u,v,⟨y,d⟩,⟨z,g⟩,f⟩;refine⟨fun a=>if a<R then y a else z (a-R),fun b c=>?_⟩;rw[zJO,f b c,d b c,g b c];refine _root_.congr (congrArg _ (zL fun a e=>?_)) (zL fun a e=>?_);rw[zB e];rw[zA oM,zAo]
theorem yD.zero(R C:Nat)(A:Nat->Nat->Int):yD R C A fun _=>0:=⟨fun _=>0,fun b _=>(zBt fun a _=>yK _).symm⟩
theorem yD.ext(h:yD R C A x)(e:∀b,b<C->y b=x b):yD R C A y:=by
 obtain⟨z,c⟩:=h;exact⟨z,fun b a=>(e b a).trans (c b a)⟩
theorem yD.add(h:yD R C A x)(k:yD R C A y):yD R C A fun b=>x b+y b:=by
 obtain⟨z,e⟩:=h;obtain⟨w,d⟩:=k;exact⟨fun a=>z a+w a,fun b c=>by
  dsimp only;rw[e b c,d b c,<-zBw];exact zL fun a _=>(zBx _ _ _).symm⟩
theorem yD.smul(k:Int)(h:yD R C A x):yD R C A fun b=>k*x b:=by
 obtain⟨z,d⟩:=h;exact⟨fun a=>k*z a,fun b c=>by
  dsimp only;rw[d b c,<-jK];exact zL fun a _=>(qA _ _ _).symm⟩
theorem zJ4{s:Nat}(k:HB (p+s) m G (zOS (p+s) C (zJA p P Q)))(x:Nat->Int):
  yD m C (fun a b=>qS p fun t=>G a t*P t b) x↔yD p C P x/\yD s C Q x:=by
 have j:∀(y:Nat->Int) (b:Nat),(qS m fun a=>y a*qS p fun t=>G a t*P t b)=qS p fun t=>(qS m fun a=>y a*G a t)*P t b:=fun y b=>(zGM y G fun t=>P t b).symm
 constructor
 .rintro⟨y,e⟩
  have i:zOS (p+s) C (zJA p P Q) fun t=>qS m fun a=>y a*G a t:=(k.iff _).2 ⟨y,fun b _=>rfl⟩
  refine⟨⟨fun t=>qS m fun a=>y a*G a t,fun b d=>by rw[e b d,j]⟩,⟨fun t=>-(qS m fun a=>y a*G a (p+t)),fun b d=>?_⟩⟩;have f:=i b d;rw[zJO]at f;have g:(qS s fun t=>-(qS m fun a=>y a*G a (p+t))*Q t b)=-1*qS s fun t=>(qS m fun a=>y a*G a (p+t))*Q t b:=by
   rw[<-jK];exact zL fun t _=>by rw[yE,zDm]
  rw[e b d,j,g];omega
 rintro⟨⟨y,e⟩,⟨w,q⟩⟩;have i:zOS (p+s) C (zJA p P Q) fun t=>if t<p then y t else-(w (t-p)):=fun b d=>by
  rw[zJO];have f:(qS p fun a=>(if a<p then y a else-(w (a-p)))*P a b)=qS p fun a=>y a*P a b:=zL fun a l=>by rw[zB l]
  have g:(qS s fun a=>(if p+a<p then y (p+a)else-(w (p+a-p)))*Q a b)=-1*qS s fun a=>w a*Q a b:=by
   rw[<-jK];exact zL fun a _=>by rw[zA oM,zAo,yE,zDm]
  rw[f,g,<-e b d,<-q b d];omega
 obtain⟨c,n⟩:=(k.iff _).1 i;refine⟨c,fun b d=>?_⟩;rw[j,e b d];refine zL fun t o=>?_
 have h:=n t oM;dsimp only at h;rw[zB o]at h;rw[h]
def zMw(m:Nat)(c:Nat->Nat)(G:Nat->Nat->Int):Int:=jB m fun i=>G i (c i)
theorem zUH(n:Nat)(f g:Nat->Int):jB n (fun i=>f i*g i)=jB n f*jB n g:=by
 induction n with
 |zero=>rfl
 |succ n a=>
  show jB n (fun i=>f i*g i)*(f n*g n)=jB n f*f n*(jB n g*g n);rw[a,qA,qA,jF (jB n g)]
theorem zHR(h:Ech C m c G):0<zMw m c G:=zAT fun i a=>h.pos i a
theorem zO7(h:∃t,t<m/\f t≠0):∃t,t<m/\f t≠0/\∀s,s<t->f s=0:=by
 obtain⟨t,e,g⟩:=h;obtain⟨a,⟨b,c⟩,d⟩:=zQL (P:=fun t=>t<m/\f t≠0) t ⟨e,g⟩;exact⟨a,b,c,fun s j=>zR fun i=>by have:=d s ⟨oM,i⟩;omega⟩
theorem zZj{τ:Nat->Nat}(h1:∀i,i<m->τ i<m)(h2:∀i j,i<j->j<m->τ i<τ j):∀i,i<m->τ i=i:=by
 have b:Inc m τ:=fun a c=>h2 a (a+1) oM c
 have f:∀d i,i+d+1=m->τ i+d+1<=m:=fun d=>by
  induction d with
  |zero=>intro i b;have:=h1 i oM;omega
  |succ d g=>
   intro i b;have:=g (i+1) oM;have:=h2 i (i+1) oM oM;omega
 intro i e;have h:=b.le i e;have k:=f (m-1-i) i oM;omega
theorem zS4(g:Ech C m c P)(k:Ech C m c' Q)(hK:∀i,i<m->∀b,b<C->Q i b=qS m fun t=>K i t*P t b):
  (∀i,i<m->c' i=c i)/\(∀i,i<m->∀t,t<i->K i t=0)/\∀i,i<m->K i i*P i (c i)=Q i (c i):=by
 have u:∀i,i<m->∃t,t<m/\K i t≠0/\∀s,s<t->K i s=0:=fun i a=>zO7 (zR fun B=>by
  have q:Q i (c' i)=0:=by
   rw[hK i a _ (k.lt i a)];exact zBt fun t f=>by rw[show K i t=0 from zR fun h=>B ⟨t,f,h⟩,yK]
  have:=k.pos i a;omega)
 have e:∃d:Nat->Nat,∀i,i<m->d i<m/\K i (d i)≠0/\∀s,s<d i->K i s=0:=⟨fun i=>if h:i<m then(u i h).choose else 0,fun i a=>by
  dsimp only;rw[dif_pos a];exact(u i a).choose_spec⟩
 obtain⟨d,e⟩:=e;have z:∀i,i<m->∀b,b<C->b<c (d i)->Q i b=0:=fun i a b w A=>by
  rw[hK i a b w];refine zBt fun t f=>?_
  rcases zK t (d i)with h|h
  rw[(e i a).2.2 t h,yK];rw[g.zero t f b (by
   rcases zK (d i) t with h2|h2
   have:=g.inc (d i) t h2 f;omega;obtain rfl:t=d i:=oM;exact A),qB]
 have r:∀i,i<m->Q i (c (d i))=K i (d i)*P (d i) (c (d i)):=fun i a=>by
  rw[hK i a _ (g.lt _ (e i a).1)];refine zBA (e i a).1 fun t f p=>?_
  rcases zAb p with h|h
  rw[(e i a).2.2 t h,yK];rw[g.zero t f _ (g.inc _ _ h f),qB]
 have n:∀i,i<m->c' i=c (d i):=fun i a=>by
  have D:=g.pos _ (e i a).1;have p:Q i (c (d i))≠0:=by
   rw[r i a];intro q;rcases Int.mul_eq_zero.1 q with h|h
   exact(e i a).2.1 h;omega
  rcases yS (c' i) (c (d i))with h|h|h
  .have l:=z i a _ (k.lt i a) h
   have h2:=k.pos i a;omega
  exact h;exact absurd (k.zero i a _ h) p
 have o:=zZj (fun i a=>(e i a).1) (fun i j x v=>by
  have l:=k.inc i j x v;rw[n i oM,n j v]at l;refine zCk fun y=>?_
  rcases Nat.eq_or_lt_of_le y with h|h
  rw[h]at l;omega;have:=g.inc _ _ h (e i oM).1;omega)
 refine⟨fun i a=>by rw[n i a,o i a],fun i a t f=>(e i a).2.2 t (by rw[o i a];exact f),fun i a=>?_⟩;have:=r i a;rw[o i a]at this;exact this.symm
theorem zS3(h:Ech C m c P)(j:Ech C m c' Q)(hK:∀i,i<m->∀b,b<C->Q i b=qS m fun t=>K i t*P t b):det m K*zMw m c P=zMw m c' Q:=by
 obtain⟨e,f,g⟩:=zS4 h j hK;rw[zF7 fun a k b _ l=>f a k b l];unfold zMw;rw[<-zUH];exact zKI fun i d=>by rw[g i d,e i d]
theorem zYQ(h:Inv m m r K F)(hd:0<det m K):r=m/\jB r (fun i=>F i i)=det m K:=by
 have d:m<=min m m:=oM;have l:=h.minors d (fun a=>a) (fun b=>b) (fun a o=>o) fun b p=>p
 have n:=h.gen d (g:=det m K) fun w x u v=>zHZ w x u v
 have j:=h.dg.prod_nonneg (k:=m) d;have e:jB m (fun i=>F i i)=det m K:=zDV j (zBQ hd) l n;have t:r=m:=by
  have q:r<=m:=by have:=h.dg.le;omega
  refine zCz q (zAC fun s=>?_);rw[zLe (f:=fun i=>F i i) (c:=r) s (h.dg.zero r (xgf _) oM)]at e;omega
 rw[t];exact⟨rfl,e⟩
structure Lat(C:Nat)(L:(Nat->Int)->Prop):Prop where
 zero:L fun _=>0
 ext:∀x y:Nat->Int,L x->(∀b,b<C->y b=x b)->L y
 add:∀x y,L x->L y->L fun b=>x b+y b
 sub:∀x y,L x->L y->L fun b=>x b-y b
theorem zV6(R C:Nat)(A:Nat->Nat->Int):Lat C (yD R C A):=
 ⟨yD.zero R C A,fun _ _ h e=>h.ext e,fun _ _ h k=>h.add k,fun x y h k=>(h.add (k.smul (-1))).ext fun b _=>oM⟩
def zDI(L1 L2:(Nat->Int)->Prop)(x:Nat->Int):Prop:=L1 x/\L2 x
section
variable {C:Nat} {L M N:(Nat->Int)->Prop}
theorem Lat.int(h:Lat C L)(k:Lat C M):Lat C (zDI L M):=
 ⟨⟨h.zero,k.zero⟩,fun x y g e=>⟨h.ext x y g.1 e,k.ext x y g.2 e⟩,fun x y g f=>⟨h.add x y g.1 f.1,k.add x y g.2 f.2⟩,fun x y g f=>⟨h.sub x y g.1 f.1,k.sub x y g.2 f.2⟩⟩
theorem zJQ(k:Lat C M)(a:L x):zCB C L M x:=⟨x,_,a,k.zero,fun b _=>(zAJ _).symm⟩
theorem zUx(h:Lat C L)(a:M x):zCB C L M x:=⟨_,x,h.zero,a,fun b _=>(zAy _).symm⟩
theorem zWj(x:Nat->Int):zCB C L M x↔zCB C M L x:=by
 constructor<;>(rintro⟨u,v,c,d,e⟩;exact⟨v,u,d,c,fun b a=>by rw[e b a,Int.add_comm]⟩)
theorem zSG(x:Nat->Int):zCB C (zCB C L M) N x↔zCB C L (zCB C M N) x:=by
 constructor
 .rintro⟨u,v,⟨a,b,f,g,e⟩,j,d⟩
  exact⟨a,fun i=>b i+v i,f,⟨b,v,g,j,fun i _=>rfl⟩,fun i c=>by rw[d i c,e i c,Int.add_assoc]⟩
 rintro⟨u,v,h,⟨a,b,f,g,e⟩,d⟩;exact⟨fun i=>u i+a i,b,⟨u,a,h,f,fun i _=>rfl⟩,g,fun i c=>by rw[d i c,e i c,Int.add_assoc]⟩
theorem zJP(h:Lat C L)(x:Nat->Int):zCB C L L x↔L x:=
 ⟨fun⟨u,v,a,b,e⟩=>h.ext _ _ (h.add u v a b) e,fun c=>zJQ h c⟩
theorem zSF(h:Lat C L)(k:Lat C M)(x:Nat->Int):zCB C L (zDI L M) x↔L x:=
 ⟨fun⟨u,v,a,b,e⟩=>h.ext _ _ (h.add u v a b.1) e,fun c=>zJQ (h.int k) c⟩
theorem zRN(k:Lat C M)(x:Nat->Int):zDI L (zCB C L M) x↔L x:=⟨fun h=>h.1,fun h=>⟨h,zJQ k h⟩⟩
theorem zPj(h:Lat C L)(k:Lat C M)(l:Lat C N)(x:Nat->Int):zCB C L (zDI M (zCB C L N)) x↔zDI (zCB C L M) (zCB C L N) x:=by
 constructor
 .rintro⟨u,v,d,⟨m,a,b,g,j,e⟩,f⟩
  exact⟨⟨u,v,d,m,f⟩,⟨fun i=>u i+a i,b,h.add u a d g,j,fun i c=>by rw[f i c,e i c,Int.add_assoc]⟩⟩
 rintro⟨⟨u,v,d,m,e⟩,⟨a,b,g,j,f⟩⟩;exact⟨u,v,d,⟨m,fun i=>a i-u i,b,h.sub a u g d,j,fun i c=>by
  have n:=e i c;have o:=f i c;dsimp only;omega⟩,e⟩
theorem zYt(h:Lat C L)(k:Lat C M):(∀x,zCB C L M x↔M x)↔∀x,L x->M x:=
 ⟨fun g x a=>(g x).1 (zJQ k a),fun g x=>⟨fun⟨u,v,b,c,e⟩=>k.ext _ _ (k.add u v (g u b) c) e,fun a=>zUx h a⟩⟩
theorem zYP:(∀x,zDI L M x↔L x)↔∀x,L x->M x:=⟨fun g x a=>((g x).2 a).2,fun g x=>⟨fun h=>h.1,fun h=>⟨h,g x h⟩⟩⟩
end
def bB(h:Nat):Nat:=24*(8*h)^4
theorem HB.rows_min(b:HB C m G (yD R C A)):zDk m R C A:=by
 obtain⟨X,c⟩:=zD4 (F:=G) (G:=A) (p:=m) (q:=R) (C:=C) fun a d=>(b.iff _).2 (yD.row G d)
 exact zDk.of_mul (F:=G) c b.min1
theorem HB.le_cols(h:HB C m G L):m<=C:=h.min1.cols
theorem zOX(b:HB C m G (yD R C A))(e:C<=4)(h1:1<=h)(c:leM h R C A):leM (bB h) m C G:=
 b.bound (R:=R) (W:=A) (by have:=b.le_cols;omega) h1 c (fun a d=>yD.row A d) b.rows_min
theorem zPN(n:Nat)(k:Int)(f:Nat->Int):jB n (fun i=>k*f i)=k^n*jB n f:=by
 induction n with
 |zero=>simp[jB]
 |succ n a=>
  show jB n (fun i=>k*f i)*(k*f n)=k^(n+1)*(jB n f*f n);rw[a,Int.pow_succ,qA,jF (jB n f),<-qA]
theorem HB.scale{f:Int}(F:f≠0)(n:HB C m G (yD R C A)):HB C m (fun a b=>(f.natAbs:Int)*G a b) (yD R C fun a b=>A a b*f):=by
 obtain⟨c,d⟩:=n.hnf;have l:(0:Int)<f.natAbs:=oM;obtain⟨k,r⟩:∃k:Int,(f.natAbs:Int)=k:=⟨_,rfl⟩;rw[r]at l;have D:∃s:Int,f=k*s/\k=f*s:=by
  rcases zCX 0 f with h|h
  exact⟨1,oM,oM⟩;exact⟨-1,oM,oM⟩
 obtain⟨s,u,v⟩:=D;simp only[r];refine⟨⟨c,d.le,⟨d.ech.lt,fun i o=>Int.mul_pos l (d.ech.pos i o),fun i o t E=>by rw[d.ech.zero i o t E,qB],d.ech.inc⟩,fun a b w B _=>?_,fun a g j=>oM⟩,fun x=>?_⟩
 .have h:=d.red a b w B trivial
  exact⟨Int.mul_nonneg (zBQ l) h.1,Int.mul_lt_mul_of_pos_left h.2 l⟩
 constructor
 .rintro⟨y,p⟩
  obtain⟨z,q⟩:=(n.iff _).1 (show yD R C A fun b=>qS R fun a=>y a*A a b from⟨y,fun b _=>rfl⟩);refine⟨fun t=>s*z t,fun b e=>?_⟩;have g:(qS R fun a=>y a*(A a b*f))=f*qS R fun a=>y a*A a b:=by
   rw[<-jK];exact zL fun a _=>by rw[<-qA,zZ]
  have j:(qS m fun a=>s*z a*(k*G a b))=f*qS m fun a=>z a*G a b:=by
   rw[<-jK,u];exact zL fun a _=>by rw[qA s,jF (z a),<-qA s,zZ s]
  rw[p b e,g,j,<-q b e]
 rintro⟨z,q⟩;obtain⟨y,p⟩:=(n.iff _).2 (show yD m C G fun b=>qS m fun a=>z a*G a b from⟨z,fun b _=>rfl⟩);refine⟨fun t=>s*y t,fun b e=>?_⟩;have g:(qS R fun a=>s*y a*(A a b*f))=k*qS R fun a=>y a*A a b:=by
  rw[<-jK];exact zL fun a _=>by rw[v,qA s,<-qA (y a),zZ _ f,<-qA,zZ s]
 have j:(qS m fun a=>z a*(k*G a b))=k*qS m fun a=>z a*G a b:=by
  rw[<-jK];exact zL fun a _=>by rw[jF]
 rw[q b e,g,j,<-p b e]
theorem zVF(k:Int):zMw m c (fun a b=>k*G a b)=k^m*zMw m c G:=zPN m k fun i=>G i (c i)
def zOF(n:Nat)(F:Nat->Int):List Int:=(yV n F).filter fun z=>decide (1<z)
theorem zKf(n:Nat)(F:Nat->Int):zOF (n+1) F=zOF n F++if 1<F n then [F n]else []:=by
 unfold zOF yV;rw[zCy,zBl,List.filter_append];congr 1;by_cases h:1<F n
 .rw[zB h];simp[h]
 rw[zA h];simp[h]
theorem zWw{F:Nat->Int}{z:Int}(h:z∈zOF n F):2<=z:=by
 have:=(List.mem_filter.1 h).2;simp at this;omega
def zEo:List Int->Int
 | []=>1
 |z::zs=>z*zEo zs
theorem zGG(xs ys:List Int):zEo (xs++ys)=zEo xs*zEo ys:=by
 induction xs with
 |nil=>exact(zAG _).symm
 |cons x xs a=>show x*zEo (xs++ys)=x*zEo xs*zEo ys;rw[a,qA]
theorem zUG{F:Nat->Int}(h:∀i,i<n->0<F i):zEo (zOF n F)=jB n F:=by
 induction n with
 |zero=>rfl
 | succ n a=>
  rw[zKf,zGG,a fun i c=>h i oM];show _=jB n F*F n;have b:=h n oM;by_cases g:1<F n
  .rw[zB g]
   show _*(F n*1)=_;rw[zAl]
  rw[zA g,show F n=1 by omega];rfl
def qBt(d:Nat)(T K:Nat->Nat->Int)(a b:Nat):Int:=if a<d then(if b<d then idf a b else-(T a (b-d)))else if b<d then 0 else K (a-d) (b-d)

theorem Ech.indep(h:Ech n m c G)(i:∀b,b<n->(qS m fun t=>y t*G t b)=0):∀t,t<m->y t=0:=by
 intro t;induction t using Nat.strongRecOn with
 | ind t j=>
  intro d;have e:=i (c t) (h.lt t d);rw[zBA d fun s a f=>by
   rcases zAb f with g|g
   rw[j s g a,yK];rw[h.zero s a _ (h.inc t s g a),qB]]at e
  have k:=h.pos t d;rcases Int.mul_eq_zero.1 e with g|g
  exact g;omega
theorem Ech.uniq(h:Ech n m c G){z:Nat->Int}(f:∀b,b<n->(qS m fun t=>y t*G t b)=qS m fun t=>z t*G t b):∀t,t<m->y t=z t:=fun t d=>by
 have:=h.indep (y:=fun t=>y t-z t) (fun b a=>by
  have e:(qS m fun t=>(y t-z t)*G t b)=(qS m fun t=>y t*G t b)+-1*qS m fun t=>z t*G t b:=by
   rw[<-jK,<-zBw];exact zL fun t _=>by rw[zED];omega
  rw[e,f b a];omega) t d
 omega
def Ind(n m:Nat)(G:Nat->Nat->Int):Prop:=∀y z:Nat->Int,(∀b,b<n->(qS m fun t=>y t*G t b)=qS m fun t=>z t*G t b)->∀t,t<m->y t=z t
def qBw(D C:Nat)(A S:Nat->Nat->Int)(x y:Nat->Int)(b:Nat):Int:=(qS D fun t=>x t*A t b)+qS C fun t=>y t*S t b

def qBc(n:Nat)(x:Nat->Int)(U:Nat->Nat->Int)(b:Nat):Int:=qS n fun t=>x t*U t b
def ImL(n:Nat)(U:Nat->Nat->Int)(L:(Nat->Int)->Prop)(x:Nat->Int):Prop:=∃y,L y/\∀b,b<n->x b=qBc n y U b
theorem zVY(a:Hnf n m m c P)(r:leM h R n B)(hK:∀i,i<R->∀b,b<n->B i b=qS m fun t=>K i t*P t b){i:Nat}(o:i<R):∀t,t<m->(K i t).natAbs<=2^t*h:=by
 intro t;induction t using Nat.strongRecOn with
 | ind t x=>
  intro f;have C:=a.ech.pos t f;have l:=a.ech.lt t f;obtain⟨p,w⟩:∃p,(P t (c t)).natAbs=p:=⟨_,rfl⟩;have v:1<=p:=oM;have e:=hK i o (c t) l;rw[zE4 (n:=t+1) f fun s j d=>by rw[a.ech.zero s d (c t) (a.ech.inc t s oM d),qB]]at e;have z:B i (c t)=(qS t fun s=>K i s*P s (c t))+K i t*P t (c t):=e;have u:∀k,k<=t->(qS k fun s=>K i s*P s (c t)).natAbs+h*p<=2^k*(h*p):=fun k=>by
   induction k with
   |zero=>intro _;simp[qS]
   | succ k y=>
    intro A;have j:=y oM;have d:(K i k*P k (c t)).natAbs<=2^k*(h*p):=by
     have q:=a.red k t oM f trivial;rw[qU,<-zE];exact qO (x k oM oM) oM
    have g:(qS (k+1) fun s=>K i s*P s (c t)).natAbs<=(qS k fun s=>K i s*P s (c t)).natAbs+(K i k*P k (c t)).natAbs:=Int.natAbs_add_le _ _;rw[qE,zN (2^k) 2,zE,Nat.two_mul];omega
  have j:=u t (xgf t);have d:=r i o (c t) l;have q:h<=h*p:=zO _ v;have g:(K i t*P t (c t)).natAbs<=2^t*(h*p):=oM;rw[qU,w,<-zE]at g;exact Nat.le_of_mul_le_mul_right g oM
theorem zJj(d:Hnf n m m c P)(g:m<=4)(a:leM h R n B)(hK:∀i,i<R->∀b,b<n->B i b=qS m fun t=>K i t*P t b):leM (8*h) R m K:=fun i e t f=>
 zD (zVY d a hK e t f) (zP _ (zD (zX oM (show t<=3 by omega)) dE))
theorem zYL(A:Nat->Nat->Int):∀a,a<n->∀b,b<C->A a b=qS n fun t=>idf a t*A t b:=fun a c b _=>by
 rw[zBA c (fun i _ d=>by rw[show idf a i=0 from zA (fun e=>d e.symm),yK]),show idf a a=1 from zB rfl,zAG]
theorem zDk.le(h:zDk k R C A):k<=R:=zKV (zYL (n:=R) (C:=C) A) h
structure qBn(R C:Nat)(A:Nat->Nat->Int):Prop where
 sat:∀x,qAV R C A x->yD R C A x
 full:zDk R R C A
theorem zBg.cut{i:Nat}(h:zBg w (slq b n i) M){f t:Nat}(E:f<=t)(G:t<=n)(a:Option Addr)(q:f<t->a=some ⟨b,f,none⟩)(c:Nat)(hc:t-f<=c)(D:c<=i):zG5 w (.slice a (t-f) c) ((M.take t).drop f):=by
 obtain⟨x,H,z,e,A,B,C,p⟩:=h;injection e with l m o
 subst m;subst o;subst l;refine⟨a,t-f,c,rfl,by rw[zBe,qR];omega,hc,oM,fun j=>?_⟩;have r:f<t:=zCk fun F=>j (qP (by rw[qR];omega))
 obtain⟨y,cs,d,u,v⟩:=p (by rintro rfl;simp at j);injection d with d
 injection d with d
 subst d;refine⟨b,f,cs,q r,u,fun k I g=>?_⟩;have s:=(xge.1 g).1;rw[zBe,qR]at s;rw[List.getElem?_drop,List.getElem?_take_of_lt oM]at g;exact v _ _ g
theorem zYx{zs:List Int}(h:zBy w v zs)(e:∀b,jY w b zs->w'.heap[b]?=w.heap[b]?)(x:zBq w w'):zBy w' v zs:=by
 obtain⟨a,n,c,d,f,g,i,j⟩:=h;exact⟨a,n,c,d,f,g,i,fun k=>(j k).elim fun b h=>⟨b,h.1,h.2.old (e b h.2) x⟩⟩
theorem zG5.offw{g:Nat}{T:TypeId}(h:zG5 w v M)(y:Blk w g T cs)(h1:T≠tR)(h2:T≠tI)(f:∀b,b≠g->w'.heap[b]?=w.heap[b]?)(F:zBq w w'):zG5 w' v M:=by
 obtain⟨j,n,m,q,r,s,t,u⟩:=h;refine⟨j,n,m,q,r,s,t,fun C=>?_⟩;obtain⟨b,o,p,G,i,H⟩:=u C;have e:∀{c:Nat} {U:TypeId} {d:Array Value},w.heap[c]?=some (.cells d U (0,0))->T≠U->c≠g:=by
  intro c U d a x A;subst A;have z:w.heap[c]?=some (.cells cs T (0,0)):=y;rw[z]at a;injection a with a
  injection a with _ E
  exact x E
 refine⟨b,o,p,G,(f b (e i h1)).trans i,fun k N B=>?_⟩;obtain⟨K,I,J⟩:=H k N B;exact⟨K,I,zYx J (fun l D=>by obtain⟨O,L,-⟩:=D;exact f l (e L h2)) F⟩
theorem zG3.keep3{R C:Int}(h:zG3 w v R C M)(a:Blk w b 32 cs)(x y z:Value):zG3 (((w.setCell ⟨b,0,none⟩ x).setCell ⟨b,1,none⟩ y).setCell ⟨b,2,none⟩ z) v R C M:=by
 obtain⟨A,rfl,h⟩:=h;exact⟨A,rfl,h.offw a dE dE (fun k c=>zAm _ _ k _ _ _ c) (a.lext3 dE _ _ _)⟩
theorem zG5.nil(w:World)(a:Option Addr):zG5 w (.slice a 0 0) []:=⟨a,0,0,rfl,rfl,xgf _,oM,fun h=>absurd rfl h⟩
theorem zXz(v:Value)(R C f t:Nat)(M:List (List Int))(w:World)(h:zAQ w v R C M)(hF:zBW R C M)(B:f<=t)(H:t<=R)(O:R<=1000000):
  CPq 103 #[v,niq f,niq t] w fun e w'=>∃s,e= .returned s/\zG3 w' s ((t-f:Nat):Int) C ((M.take t).drop f)/\BWq w w':=by
 obtain⟨A,rfl,h⟩:=h;obtain⟨y,n,z,rfl,d,L,N,l⟩:=id h;obtain rfl:R=n:=by rw[<-d,hF.1]
 have Q:t<=z:=oM;have G:(t:Int)-(f:Int)=((t-f:Nat):Int):=oM;have S:IntKind.i64.wrap ((t-f:Nat):Int)=((t-f:Nat):Int):=yC _ oM;rcases qV R with o|o
 .subst o
  obtain rfl:f=0:=oM;obtain rfl:t=0:=oM;obtain rfl:M= []:=qL d;clear hF d l h G;go_enter Tryz.func103,Tryz.ntmps103;go_upto_region 1 with(fail)
  refine zF ?_;intro x g;obtain⟨m,c,a,F⟩:=zAU g;have k:=c.three;have I:=c.lt;clear g;refine yA 12 [] ?_;refine sRd ?_;refine sRf ?_;intro K i;have a:=a.I i;have j:=nx m i;have J:=a.three;clear k;go_wp2;refine zAD (r:=w.heap.size+1) rfl rfl rfl (a.put3 _ _ _) ⟨_,rfl,⟨_,rfl,zG5.nil _ _⟩,yB (yB (yB j oM 0 _) oM 1 _) oM 2 _⟩
 obtain⟨b,rfl⟩:∃b,y=some ⟨b,0,none⟩:=by
  obtain⟨b,_,e,-⟩:=l (by rintro rfl;simp at d;omega);exact⟨b,e⟩
 clear hF d l;obtain⟨q,D⟩:∃q:Option Addr,(if t=f then some ⟨b,0,none⟩else some ⟨b,f,none⟩)=q:=⟨_,rfl⟩;have p:f<t->q=some ⟨b,f,none⟩:=fun P=>by rw[<-D,zA oM]
 have u:=xgv p;clear p;go_enter Tryz.func103,Tryz.ntmps103;go_upto_region 1 with(fail)
 refine zF ?_;intro x g;obtain⟨m,c,a,F⟩:=zAU g;have k:=c.three;have I:=c.lt;clear g;refine yA 12 [] ?_;refine sRd ?_;refine sRf ?_;intro K i;have a:=a.I i;have j:=nx m i;have J:=a.three;clear k;go_wp2;have E:=(h.cut B H q u.out (t-f) (xgf _) oM).I j;refine zAD (r:=w.heap.size+1) rfl rfl rfl (a.put3 _ _ _) ⟨_,rfl,zG3.keep3 ⟨_,rfl,E⟩ a _ _ _,yB (yB (yB j oM 0 _) oM 1 _) oM 2 _⟩
theorem zNd(v:Value)(zs:List Int)(w:World)(h:zBy w v zs):
  CPq 133 #[v] w fun e w'=>e= .returned (.bool (decide (∀z∈zs,z=0)))/\BWq w w':=by
 obtain⟨O,n,P,rfl,u,Q,R,-⟩:=id h;have p:=xgw u;clear u;obtain⟨t,g⟩:∃t,decide (∀z∈zs,z=0)=t:=⟨_,rfl⟩;rw[g];have o:=xgw g;clear g;go_enter Tryz.func133,Tryz.ntmps133;go_wp2;go_loopw [7] (fun m wr=>∃k:Nat,k<=n/\m=niq k/\BWq w wr/\Hid (∀z∈zs.take k,z=0)) (fun m _=>n-(intOf m).toNat)
 case atStart=>exact⟨0,oM,rfl,zC _ _,xgw sI⟩
 obtain⟨k,T,rfl,i,C⟩:=hrel;by_cases J:k<n
 .obtain⟨b,z,s,a,l,c,rfl,S,D,M,N,L⟩:=(h.I i).cell (k:=k) (by rw[p.out];exact J)
  have r:=xgw D;clear D;go_upto_region 4 with(fail)
  refine zF ?_;intro F A;obtain⟨x,E,U⟩:=qJ A;have G:=E.two;clear M N A;go_wp2_with fail
  refine(zAw _ z F (L.ext (lx x)).J).mono ?_;rintro e V ⟨rfl,H⟩;have B:=nx (nx i x) H;clear G;by_cases f:z=0
  .have j:(zAv z 0 !=0)=false:=by rw[f];decide
   obtain⟨q,d⟩:∃q,zAv z 0=q:=⟨_,rfl⟩;rw[d]at j ⊢
   clear d;go_wp2;go_roundw
   case rel=>
    refine⟨k+1,oM,by simp,B,xgw ?_⟩;rw[jH,r.out];intro y K;rcases List.mem_append.1 K with h1|h1
    exact C.out y h1;simp at h1;rw[h1,f]
   case measure=>exact meq
  have j:(zAv z 0 !=0)=true:=by
   rw[bne_iff_ne];unfold zAv;split<;>(try split)<;>omega
  obtain⟨q,d⟩:∃q,zAv z 0=q:=⟨_,rfl⟩;rw[d]at j ⊢
  clear d;go_wp2;go_ret;refine⟨?_,B⟩;rw[<-o.out,zT (fun I=>f (I z (xgd r.out)))];rfl
 obtain rfl:k=n:=oM;go_wp2;go_ret;refine⟨?_,i⟩;have:=C.out;rw[<-p.out,jO]at this;rw[<-o.out,zQ this];rfl
theorem zTf(v:Value)(R C r:Nat)(κ:Nat->Nat)(M:List (List Int))(w:World)(h:zAQ w v R C M)(hF:zBW R C M)(d:Hnf C R r κ (ent M)):
  CPq 104 #[v] w fun e w'=>e= .returned (niq r)/\BWq w w':=by
 obtain⟨A,rfl,h⟩:=h;obtain⟨B,n,E,rfl,g,K,L,-⟩:=id h;obtain rfl:R=n:=by rw[<-g,hF.1]
 have x:=xgw g;have u:=xgv hF;have Q:=d.le;have y:jI (∀k,k<R->decide (∀z∈yV C (ent M k),z=0)=decide (r<=k)):=⟨fun k F=>by
  refine decide_eq_decide.2 ⟨fun c=>?_,fun G z c=>?_⟩
  .refine zAC fun f=>?_
   have S:=d.ech.pos k f;have:=c (ent M k (κ k)) (List.mem_map.2 ⟨κ k,yP.2 (d.ech.lt k f),rfl⟩);omega
  obtain⟨t,H,rfl⟩:=List.mem_map.1 c;exact d.zero k G F t (yP.1 H)⟩
 clear g hF d;go_enter Tryz.func104,Tryz.ntmps104;go_upto_region 1 with(fail)
 refine zF ?_;intro J o;obtain⟨m,a,T⟩:=qJ o;clear o;go_wp2;go_loopw [3] (fun l wr=>∃i:Nat,i<=r/\l=niq i/\BWq w wr/\Blk wr w.heap.size 32 #[niq R,niq C,.slice B R E]) (fun l _=>R-(intOf l).toNat)
 case atStart=>exact⟨0,oM,rfl,m,a⟩
 clear a m;obtain⟨i,O,rfl,j,a⟩:=hrel;have D:=a.three;by_cases f:i<R
 .obtain⟨b,U,W,V,Y,rfl,N,c,I,s⟩:=(h.I j).row (k:=i) (by rw[x.out];exact f)
  obtain rfl:=u.out.row_eq c;go_wp2_with fail
  refine(zNd _ (yV C (ent M i)) wr s).mono ?_;rintro e X ⟨rfl,p⟩;rw[y.out i f];have q:=nx j p;have a:=a.I p;clear D I c s;by_cases P:i<r
  .rw[zT (by omega:¬ r<=i)]
   go_wp2;go_roundw
   case rel=>exact⟨i+1,oM,by simp,q,a⟩
   case measure=>exact meq
  obtain rfl:i=r:=oM;rw[zQ (xgf i)];go_wp2;go_ret;exact⟨rfl,q⟩
 obtain rfl:i=r:=oM;go_wp2;go_ret;exact⟨rfl,j⟩
theorem zR0(B:Nat)(W X Y:Value)(R C i:Nat)(d f g:List Nat)(x:Bst)(w:World)(h:K9 w B W X Y R C d f g x.s x.t (fun a b=>x.i b a))(y:i<R)(hR:R<=1000000)(hC:C<=1000000)
  (hS:∀t,t<C->Sm (x.s i t)) (hT:∀t,t<R->Sm (x.t i t)) (hV:∀t,t<R->Sm (x.i i t)):
  CPq 137 #[ptq B 0,niq i] w fun e w'=>(∃u,e= .returned u)/\qK (Z3 W X Y d f g) w w'/\K9 w' B W X Y R C d f g (x.neg i).s (x.neg i).t (fun a b=>(x.neg i).i b a):=by
 have a8:=xgv hS;have a9:=xgv hT;have b0:=xgv hV;obtain⟨l,p,rfl⟩:=h.m.base oM;obtain⟨m,q,rfl⟩:=h.u.base oM;obtain⟨n,r,rfl⟩:=h.v.base oM;obtain⟨a1,I⟩:=h.m.bex y;obtain⟨a2,J⟩:=h.u.bex y;have b2:=fun b Z=>h.zlt (b:=b) Z
 clear hS hT hV;go_enter Tryz.func137,Tryz.ntmps137;have hK:=h;have v:=qK.refl (Z3 (slq l R p) (slq m R q) (slq n R r) d f g) w;clear h;go_wp2;go_loopw [4] (fun A wr=>∃c:Nat,c<=C/\A=niq c/\qK (Z3 (slq l R p) (slq m R q) (slq n R r) d f g) w wr/\K9 wr B (slq l R p) (slq m R q) (slq n R r) R C d f g (upR x.s (x.neg i).s i c) x.t (fun a b=>x.i b a)) (fun A _=>C-(intOf A).toNat)
 case atStart=>exact⟨0,oM,rfl,v,by rw[zJR];exact hK⟩
 clear hK v;obtain⟨c,hc,rfl,v,hK⟩:=hrel;obtain⟨q0,q1,q2,q3,q4,q5,q6,q7,q8⟩:=hK.blk.nine;have a6:=hK.blk.lt;by_cases j:c<C
 .have lg:=hK.zlt (b:=l) (.inl (.inr rfl))
  have lb:=hK.zlt (b:=a1) (.inl (.inl (xgd I)));have T:=hK.m.rowc y I;obtain⟨xs,xa,xl,xc,U,V,-,-,H⟩:=hK.m.elem y I j;rw[zQs]at H;have L:=xgv (a8.out c j);go_upto_region 3 with(fail)
  refine yA 22 [pcI 20 (-(x.s i c))] ?_;refine sRd ?_;refine sRc (fun wS hI Gk M=>by go_simp;exact ck M (zEN _ (x.s i c) _ (H.ext hI.lext).J L.out)) (fun a7 _=>?_);refine sRd ?_;refine sRe ?_;intro w9 o F;have a4:=lx o;have a5:=o.block;obtain⟨pn,pa,pl,pc,px,rfl,G⟩:=id F;have a0:=xgw G;clear G;have D:=hK.I o;obtain⟨sn,sa,sl,sc,y1,y2,y3,y4,-⟩:=D.m.elem y I j;obtain⟨E,O⟩:=D.putM y I j F;rw[zMq (by show _=zCq x.s i i c;unfold zCq;rw[zB rfl])]at E;have N:=v.trans (qK.of _ o);have P:Z3 (slq l R p) (slq m R q) (slq n R r) d f g a1:=.inl (.inl (xgd I));clear T U V;go_wp2;go_roundw
  case rel=>exact⟨c+1,oM,by simp,N.trans (O.mono fun k _ S=>by rw[S];exact P),E⟩
  case measure=>exact meq
 have Q:c=C:=oM;replace hK:K9 wr B (slq l R p) (slq m R q) (slq n R r) R C d f g (x.neg i).s x.t (fun a b=>x.i b a):=hK.congr (fun a _ b Z=>by
    show upR _ _ i c a b=_;unfold upR;by_cases z:a=i
    .rw[zB ⟨z,oM⟩]
    rw[zA (fun h=>z h.1)];show _=zCq x.s i a b;unfold zCq;rw[zA z]) (fun _ _ _ _=>rfl) (fun _ _ _ _=>rfl)
 clear Q;go_wp2;go_loopw [5] (fun A wr=>∃c:Nat,c<=R/\A=niq c/\qK (Z3 (slq l R p) (slq m R q) (slq n R r) d f g) w wr/\K9 wr B (slq l R p) (slq m R q) (slq n R r) R C d f g (x.neg i).s (upR x.t (x.neg i).t i c) (fun a b=>x.i b a)) (fun A _=>R-(intOf A).toNat)
 case atStart=>exact⟨0,oM,rfl,v,by rw[zJR];exact hK⟩
 clear hK v;obtain⟨c,hc,rfl,v,hK⟩:=hrel;obtain⟨q0,q1,q2,q3,q4,q5,q6,q7,q8⟩:=hK.blk.nine;have a6:=hK.blk.lt;by_cases j:c<R
 .have lg:=hK.zlt (b:=m) (.inr (.inl (.inr rfl)))
  have lb:=hK.zlt (b:=a2) (.inr (.inl (.inl (xgd J))));have T:=hK.u.rowc y J;obtain⟨xs,xa,xl,xc,U,V,-,-,H⟩:=hK.u.elem y J j;rw[zQs]at H;have L:=xgv (a9.out c j);go_upto_region 7 with(fail)
  refine yA 22 [pcI 20 (-(x.t i c))] ?_;refine sRd ?_;refine sRc (fun wS hI Gk M=>by go_simp;exact ck M (zEN _ (x.t i c) _ (H.ext hI.lext).J L.out)) (fun a7 _=>?_);refine sRd ?_;refine sRe ?_;intro w9 o F;have a4:=lx o;have a5:=o.block;obtain⟨pn,pa,pl,pc,px,rfl,G⟩:=id F;have a0:=xgw G;clear G;have D:=hK.I o;obtain⟨sn,sa,sl,sc,y1,y2,y3,y4,-⟩:=D.u.elem y J j;obtain⟨E,O⟩:=D.putU y J j F;rw[zMq (by show _=zCq x.t i i c;unfold zCq;rw[zB rfl])]at E;have N:=v.trans (qK.of _ o);have P:Z3 (slq l R p) (slq m R q) (slq n R r) d f g a2:=.inr (.inl (.inl (xgd J)));clear T U V;go_wp2;go_roundw
  case rel=>exact⟨c+1,oM,by simp,N.trans (O.mono fun k _ S=>by rw[S];exact P),E⟩
  case measure=>exact meq
 have Q:c=R:=oM;replace hK:K9 wr B (slq l R p) (slq m R q) (slq n R r) R C d f g (x.neg i).s (x.neg i).t (fun a b=>x.i b a):=hK.congr (fun _ _ _ _=>rfl) (fun a _ b Z=>by
    show upR _ _ i c a b=_;unfold upR;by_cases z:a=i
    .rw[zB ⟨z,oM⟩]
    rw[zA (fun h=>z h.1)];show _=zCq x.t i a b;unfold zCq;rw[zA z]) (fun _ _ _ _=>rfl)
 clear Q;go_wp2;go_loopw [6] (fun A wr=>∃c:Nat,c<=R/\A=niq c/\qK (Z3 (slq l R p) (slq m R q) (slq n R r) d f g) w wr/\K9 wr B (slq l R p) (slq m R q) (slq n R r) R C d f g (x.neg i).s (x.neg i).t (upC (fun a b=>x.i b a) (fun a b=>(x.neg i).i b a) i c)) (fun A _=>R-(intOf A).toNat)
 case atStart=>exact⟨0,oM,rfl,v,by rw[zQr];exact hK⟩
 clear hK v;obtain⟨c,hc,rfl,v,hK⟩:=hrel;obtain⟨q0,q1,q2,q3,q4,q5,q6,q7,q8⟩:=hK.blk.nine;have a6:=hK.blk.lt;by_cases j:c<R
 .have lg:=hK.zlt (b:=n) (.inr (.inr (.inr rfl)))
  obtain⟨a3,K⟩:=hK.v.bex j;have lb:=hK.zlt (b:=a3) (.inr (.inr (.inl (xgd K))));have T:=hK.v.rowc j K;obtain⟨xs,xa,xl,xc,U,V,-,-,H⟩:=hK.v.elem j K y;rw[zXk]at H;have L:=xgv (b0.out c j);go_upto_region 11 with(fail)
  refine yA 22 [pcI 20 (-(x.i i c))] ?_;refine sRd ?_;refine sRc (fun wS hI Gk M=>by go_simp;exact ck M (zEN _ (x.i i c) _ (H.ext hI.lext).J L.out)) (fun a7 _=>?_);refine sRd ?_;refine sRe ?_;intro w9 o F;have a4:=lx o;have a5:=o.block;obtain⟨pn,pa,pl,pc,px,rfl,G⟩:=id F;have a0:=xgw G;clear G;have D:=hK.I o;obtain⟨sn,sa,sl,sc,y1,y2,y3,y4,-⟩:=D.v.elem j K y;obtain⟨E,O⟩:=D.putV j K y F;rw[zVD (by show _=zCq x.i i i c;unfold zCq;rw[zB rfl])]at E;have N:=v.trans (qK.of _ o);have P:Z3 (slq l R p) (slq m R q) (slq n R r) d f g a3:=.inr (.inr (.inl (xgd K)));clear T U V;go_wp2;go_roundw
  case rel=>exact⟨c+1,oM,by simp,N.trans (O.mono fun k _ S=>by rw[S];exact P),E⟩
  case measure=>exact meq
 have Q:c=R:=oM;replace hK:K9 wr B (slq l R p) (slq m R q) (slq n R r) R C d f g (x.neg i).s (x.neg i).t (fun a b=>(x.neg i).i b a):=hK.congr (fun _ _ _ _=>rfl) (fun _ _ _ _=>rfl) (fun a ha b _=>by
    show upC _ _ i c a b=_;unfold upC;by_cases z:b=i
    .rw[zB ⟨z,oM⟩]
    rw[zA (fun h=>z h.1)];show _=zCq x.i i b a;unfold zCq;rw[zA z])
 clear Q;go_wp2;exact bodyPost_end (results_none rfl _ _ _) rfl ⟨⟨_,rfl⟩,v,hK⟩
end Go.Proofs.YtkidaebmhlijlaaGreat
