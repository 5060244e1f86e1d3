/- Joined. -/
import Derived.Test.YtkidaebmhlijlaaGreatE24
set_option linter.unusedVariables false
set_option linter.unusedSimpArgs false
set_option linter.unusedSectionVars false
set_option maxHeartbeats 16000000
set_option maxRecDepth 100000
variable{E M a b b0 i j m n p q r:Nat}{κ:Nat->Nat}
namespace Go.Proofs.YtkidaebmhlijlaaGreat
open Go.RowKit
theorem zLg{B n Cs Ct r i:Nat}{ρ κ:Nat->Nat}{x:Bst}:∀(m j:Nat),j+m=r->(∀a,j<=a->a<r->0<=x.s (ρ i) (κ a)/\x.s (ρ i) (κ a)<x.s (ρ a) (κ a))->zIT B n Cs Ct ρ κ i m j x=some x
 |0,_,_,_=>rfl
 |m+1,j,g,h=>by
  have c:=h j (xgf _) oM;have d:=zLg (B:=B) (n:=n) (Cs:=Cs) (Ct:=Ct) m (j+1) oM fun a f e=>h a oM e
  unfold zIT;by_cases b:x.s (ρ i) (κ j)=0
  .rw[zB b,d]
  rw[zA b,zA oM,zB (Int.ediv_eq_zero_of_lt c.1 c.2),d]
theorem zLf{B n Cs Ct r:Nat}{ρ κ:Nat->Nat}{x:Bst}(h:∀i j,i<j->j<r->0<=x.s (ρ i) (κ j)/\x.s (ρ i) (κ j)<x.s (ρ j) (κ j)):∀i,i<=r->zKt B n Cs Ct ρ κ r i x=some x
 |0,_=>rfl
 |i+1,d=>by
  unfold zKt;rw[zLg (r:=r) (r-(i+1)) (i+1) oM fun b c a=>h i b oM a,zAN];exact zLf h i oM
def zKj(κ:Nat->Nat)(m:Nat):List (Nat × Nat):=(List.range m).map fun k=>(k,κ k)
theorem zBv(κ:Nat->Nat)(m:Nat):(zKj κ m).length=m:=by simp[zKj]
theorem zDw{k:Nat}(h:k<m):(zKj κ m).getD k (0,0)=(k,κ k):=by simp[zKj,xgb,h]
theorem zUC(κ:Nat->Nat)(m:Nat):zKj κ m++ [(m,κ m)]=zKj κ (m+1):=by simp[zKj,List.range_succ]
section
variable {ex:Nat->Nat} {B r n Cs Ct M0 p:Nat} {x0:Bst} {κ:Nat->Nat}
theorem zUE(f:p<=n)(b:Ech Cs p κ x0.s)(e:m<=p):LOk n Cs m x0 (zKj κ m):=by
 refine⟨fun k c=>?_,fun i j d a=>?_,fun i j d a=>?_,?_⟩
 .rw[zBv]at c
  rw[zDw c];have:=b.pos k oM;exact⟨c,oM,b.lt k oM,by dsimp only;omega⟩
 .rw[zBv]at a
  rw[zDw a,zDw oM];exact b.inc i j d oM
 .rw[zBv]at a
  rw[zDw a,zDw oM];dsimp only;omega
 rw[zBv];omega
theorem zXa(z:p<=n)(f:Ech Cs p κ x0.s)(u:zF0 (fun _ _=>True) p κ x0.s)(w:leB M0 n Cs Ct x0)(s:ex p=0):JH ex r n Cs Ct M0 x0 p x0 (zKj κ p):=by
 have d:∀k,k<p->zB6 (zKj κ p) k=k:=fun k c=>by unfold zB6;rw[zDw c]
 have e:∀k,k<p->zGQ (zKj κ p) k=κ k:=fun k c=>by unfold zGQ;rw[zDw c]
 refine⟨z,⟨0,zH _,fun _ i A=>oM,fun _=>rfl,⟨⟨[],jZ.nil,rfl⟩,fun k c=>?_,fun i j B q=>?_,by rw[zBv];exact xgf _,⟨fun k c=>?_,fun k c=>?_,fun k c t m=>?_,fun k l x h=>?_⟩,fun a o y t m=>?_,by rw[s];exact w⟩⟩,fun _ a b v g _=>?_⟩
 .rw[zBv]at c
  rw[d k c];exact c
 .rw[zBv]at q
  rw[d j q,d i oM];omega
 .rw[zBv]at c
  rw[e k c];exact f.lt k c
 .rw[zBv]at c
  show 0<x0.s (zB6 (zKj κ p) k) (zGQ (zKj κ p) k);rw[d k c,e k c];exact f.pos k c
 .rw[zBv]at c
  rw[e k c]at m;show x0.s (zB6 (zKj κ p) k) t=0;rw[d k c];exact f.zero k c t m
 .rw[zBv]at h
  rw[e k oM,e l h];exact f.inc k l x h
 exact absurd (d a o) (y a (by rw[zBv];exact o));rw[zBv]at g;show 0<=x0.s (zB6 (zKj κ p) a) (zGQ (zKj κ p) b)/\x0.s (zB6 (zKj κ p) a) (zGQ (zKj κ p) b)<x0.s (zB6 (zKj κ p) b) (zGQ (zKj κ p) b);rw[d a oM,d b g,e b g];exact u a b v g trivial
def PJ(ex:Nat->Nat)(r n Cs Ct M0 p:Nat)(κ:Nat->Nat)(x0:Bst)(m:Nat)(x:Bst)(L:List (Nat × Nat)):Prop:=(m<p/\x=x0/\L=zKj κ m)∨(p<=m/\JH ex r n Cs Ct M0 x0 m x L)
def PJ'(ex:Nat->Nat)(r n Cs Ct M0 p:Nat)(κ:Nat->Nat)(x0:Bst)(m:Nat)(x:Bst)(L:List (Nat × Nat)):Prop:=(m<p/\x=x0/\L=zKj κ (m+1))∨(p<=m/\JH' ex r n Cs Ct M0 x0 m x L)
theorem zUF(e:p<=n)(b:Ech Cs p κ x0.s)(c:zF0 (fun _ _=>True) p κ x0.s)(d:leB M0 n Cs Ct x0)(a:ex p=0):PJ ex r n Cs Ct M0 p κ x0 0 x0 []:=by
 rcases qV p with h|h
 .subst h
  exact .inr ⟨xgf _,zXa e b c d a⟩
 exact .inl ⟨h,rfl,rfl⟩
theorem zVj(I:n<=6)(u:1<=M0)(t:gk (ex n) M0<B)(J:RkB r n Cs x0)(s:p<=n)(b:Ech Cs p κ x0.s)(v:zF0 (fun _ _=>True) p κ x0.s)(w:leB M0 n Cs Ct x0)(E:ex p=0)
  (F:∀m,p<=m->m<n->ex m+min m r+min m r*(min m r+1)/2<=ex (m+1)):zXB B n Cs Ct (PJ ex r n Cs Ct M0 p κ x0) (PJ' ex r n Cs Ct M0 p κ x0):=by
 have h:=zTH (p:=p) (Ct:=Ct) I u t J F;have C:okB B n Cs Ct x0:=w.ok (zI (zKn _ u) t);refine⟨fun m x L k=>?_,fun m x L d k=>?_,fun m x L d k f=>?_,fun m x L k c d g f e o=>?_,fun m x L k c d g f e H z=>?_,fun m x L d g=>?_⟩
 .rcases k with⟨a,rfl,rfl⟩|k
  .exact⟨C,zUE s b oM⟩
  exact h.ok m x L k
 .rcases k with⟨a,rfl,rfl⟩|k
  .exact⟨C,zUE s b a⟩
  exact h.ok' m x L d k
 .rcases k with⟨a,rfl,rfl⟩|k
  .rw[b.lead a]at f
   omega
  exact .inr (h.zero m x L d k f)
 .rcases g with⟨a,rfl,rfl⟩|g
  .rw[b.lead a]at f
   rw[zBv]at e;rw[zDw e]at o;have h2:κ k=c:=o;have l:=b.inc k m e a;omega
  obtain⟨a,h2,l⟩:=h.join m x L k c d g f e o;exact⟨a,h2,fun y D=>⟨.inr (l y D).1,(l y D).2⟩⟩
 .rcases g with⟨a,rfl,rfl⟩|g
  .rw[b.lead a]at f
   obtain rfl:κ m=c:=oM;rw[zBv]at e;obtain rfl:k=m:=by
    refine zCz e (zAC fun q=>?_);have h2:=z k (xgf _) (by rw[zBv];exact q);rw[zDw q]at h2;have l:=b.inc k m q a;have K:κ m<κ k:=h2;omega
   rw[zA (by have:=b.pos k a;omega)];refine .inl ⟨a,rfl,?_⟩;rw[jM (by rw[zBv];exact xgf _),List.drop_of_length_le (by rw[zBv];exact xgf _)];exact zUC κ k
  exact .inr (h.ins m x L k c d g f e H z)
 rcases g with⟨a,rfl,rfl⟩|g
 .refine⟨x,zLf (fun i j G A=>?_) _ (xgf _),?_⟩
  .rw[zBv]at A
   rw[zDw A,zDw oM];exact v i j G oM trivial
  rcases zK (m+1) p with h2|h2
  exact .inl ⟨h2,rfl,rfl⟩;obtain rfl:p=m+1:=oM;exact .inr ⟨xgf _,zXa s b v w E⟩
 obtain⟨y,a,h2⟩:=h.red m x L d g;exact⟨y,a,.inr ⟨by have:=g.1;omega,h2.2⟩⟩
end
def esp(r p m:Nat):Nat:=esr r m-esr r p
theorem zVk(h:p<=m):esp r p m+min m r+min m r*(min m r+1)/2<=esp r p (m+1):=by
 have a:=zVl r h;show esr r m-esr r p+min m r+min m r*(min m r+1)/2<=esr r m+min m r+min m r*(min m r+1)/2-esr r p;omega
theorem zTU{M0:Nat}(i:1<=M0)(v:Value)(M:List (List Int))(R C:Nat)(w:World)(h:zAQ w v R C M)(hF:zBW R C M)(J:R<=6)(G:C<=1000000)(B:p<=R)(j:Ech C p κ (ent M))(t:zF0 (fun _ _=>True) p κ (ent M))(A:gk (esp q p R) M0<BD)(o:leM M0 R C (ent M))(Q:RkB q R C ⟨ent M,idf,idf⟩):
  CPq 102 #[v] w fun e w'=>∃v r c H U V,e= .returned v/\zEh R C r c (ent M) H U V/\leM (gk (esp q p R) M0) R R U/\leM (gk (esp q p R) M0) R R V/\zJZ w' v R C (genM R C H) (genM R R U) (genM R R V)/\BWq w w':=by
 have F:=zJT;have s:leB M0 R C R ⟨ent M,idf,idf⟩:=⟨o,zMH R M0 i,zMH R M0 i⟩;have l:esp q p p=0:=zAL _;have j:=zVj (Cs:=C) (x0:=⟨ent M,idf,idf⟩) (Ct:=R) (ex:=esp q p) J i A Q B j t s l fun m N _=>zVk N
 have K:PJ (esp q p) q R C R M0 p κ ⟨ent M,idf,idf⟩ 0 ⟨ent M,idf,idf⟩ []:=zUF B (by assumption) t s l;have x:∀y L,PJ (esp q p) q R C R M0 p κ ⟨ent M,idf,idf⟩ R y L->JH (esp q p) q R C R M0 ⟨ent M,idf,idf⟩ R y L:=fun y L d=>by
  rcases d with⟨n,-⟩|⟨-,n⟩
  omega;exact n
 have I:M0<BD:=zI (zKn _ i) A;refine(zTT F v M R C w h hF oM G (o.ok I) (zFC (z:=1) dE).sm j K (fun y L d a f O=>?_)).mono ?_;rw[zFh ((JH.fin (x y L d)).1.zero a f O)];decide;rintro S w' ⟨v,y,L,rfl,d,k,D,g⟩;obtain⟨d,P⟩:=JH.fin (x y L d);have u:=d.bd;have E:∀a,a<R->zGv R C y.s L a<R:=fun a f=>by
  unfold zGv;rw[xgb,xga oM];exact zMf (d.lok (xgf _)) _ (zAq _)
 refine⟨v,_,_,_,_,_,rfl,zMF d P k,fun a f b g=>u.2.1 _ (E a f) b g,fun a f b g=>u.2.2 _ (E b g) a f,?_,g⟩;rw[zJK k,zJK k]at D;exact D
def gx(E M:Nat):Nat:=(2*M)^E/2
theorem zLC(a:1<=E):2*gx E M=(2*M)^E:=by
 obtain⟨e,rfl⟩:∃e,E=e+1:=⟨E-1,oM⟩;have h:(2*M)^(e+1)=2*(M*(2*M)^e):=by rw[qE,zN ((2*M)^e),zE]
 unfold gx;rw[h,Nat.mul_div_cancel_left _ oM]
theorem zXO(M:Nat):gx 1 M=M:=by
 have:=zLC (E:=1) (M:=M) oM;rw[Nat.pow_one]at this;omega
theorem zE6(c:1<=M)(h:a<=b):gx a M<=gx b M:=Nat.div_le_div_right (zX oM h)
theorem zTQ(b:1<=M)(a:1<=E):M<=gx E M:=by have:=zE6 b a;rwa[zXO]at this
theorem zVt(c:1<=a):gx b (gx a M)=gx (a*b) M:=by
 have h:=zLC (M:=M) c;unfold gx at h ⊢
 rw[h,<-jT]
theorem qAa(M:Nat):gx 2 M=2*M*M:=by
 have h:=zLC (E:=2) (M:=M) oM;rw[Nat.pow_two,zE 2 M (2*M),zDE M 2 M,<-zE 2 M M]at h;omega
theorem zYF(m:Nat):gx 5 m=16*(m*m*m*m*m):=by
 have h:=zLC (E:=5) (M:=m) oM;rw[Nat.mul_pow]at h;simp only[Nat.pow_succ,Nat.pow_zero,Nat.one_mul]at h;omega
theorem qBZ(k M:Nat):gx (2^k) M=gk k M:=by
 have a:=zLC (E:=2^k) (M:=M) (qG oM);have b:=zTO k M;omega
theorem zL8(a b:Int):(a/b).natAbs<=a.natAbs:=zBN a b
structure zFy(n C:Nat)(x0:Bst)(c r:Nat)(κ:Nat->Nat)(x:Bst):Prop where
 ops:∃l,jZ n l/\x=zCf l x0
 rn:r<=n
 ech:Ech C r κ x.s
 lt:∀k,k<r->κ k<c
 red:zF0 (fun _ _=>True) r κ x.s
 zero:∀a,r<=a->a<n->∀t,t<c->t<C->x.s a t=0
section
variable {n C Ct M0 B:Nat} {x0 x:Bst} {c r:Nat} {κ:Nat->Nat}
theorem zFy.op(h:zFy n C x0 c r κ x){o:Op}(v:o.ok n)(f:∀a,a<r->∀t,(∀b,r<=b->b<n->x.s b t=0)∨True->(o.b x).s a t=x.s a t)(y:∀t,(∀b,r<=b->b<n->x.s b t=0)->∀a,r<=a->a<n->(o.b x).s a t=0):zFy n C x0 c r κ (o.b x):=by
 obtain⟨l,z,A⟩:=h.ops;refine⟨zKF z A (jZ.cons v jZ.nil) rfl,h.rn,⟨h.ech.lt,fun k d=>?_,fun k d t w=>?_,h.ech.inc⟩,h.lt,fun i j g e m=>?_,fun a g e t m u=>?_⟩;rw[f k d _ (.inr trivial)];exact h.ech.pos k d;rw[f k d _ (.inr trivial)];exact h.ech.zero k d t w;rw[f i oM _ (.inr trivial),f j e _ (.inr trivial)];exact h.red i j g e m;exact y t (fun b p q=>h.zero b p q t m u) a g e
theorem zFy.add(h:zFy n C x0 c r κ x)(k:Int)(d:i<n)(e:j<n)(l:i≠j)(m:r<=i)(p:r<=j):zFy n C x0 c r κ (x.add i j k):=by
 refine h.op (o:=.add i j k) ⟨d,e,l⟩ (fun a q t _=>?_) (fun t b a f g=>?_)
 .show zB4 x.s i j k a t=_
  unfold zB4;rw[zA oM]
 show zB4 x.s i j k a t=_;unfold zB4;split;rw[b i m d,b j p e];omega;exact b a f g
theorem zFy.swap(h:zFy n C x0 c r κ x)(b:i<n)(d:j<n)(l:r<=i)(m:r<=j):zFy n C x0 c r κ (x.swap i j):=by
 refine h.op (o:=.swap i j) ⟨b,d⟩ (fun a k t _=>?_) (fun t f a g e=>?_)
 .show x.s (swp i j a) t=_
  rw[show swp i j a=a by unfold swp;rw[zA oM,zA oM]]
 show x.s (swp i j a) t=_;refine f _ ?_ (zN5 b d e);unfold swp;split<;>(try split)<;>omega
theorem zFy.neg(h:zFy n C x0 c r κ x)(f:i<n)(j:r<=i):zFy n C x0 c r κ (x.neg i):=by
 refine h.op (o:=.neg i) f (fun a g t _=>?_) (fun t e a b d=>?_)
 .show zCq x.s i a t=_
  unfold zCq;rw[zA oM]
 show zCq x.s i a t=_;unfold zCq;split;rw[e a b d];rfl;exact e a b d
theorem zFy.redAdd(h:zFy n C x0 c r κ x)(k:Int)(z:i<r)(q:r<n)(hc:c<C):zFy n C x0 c r κ (x.add i r k):=by
 obtain⟨l,w,y⟩:=h.ops;have v:∀t,t<c->x.s r t=0:=fun t g=>h.zero r (xgf _) q t g oM
 have f:∀a t,t<c->(x.add i r k).s a t=x.s a t:=fun a t g=>by
  show zB4 x.s i r k a t=_;unfold zB4;split;rename_i e;rw[v t g,qB,zAJ,e];rfl
 refine⟨zKF w y (jZ.cons (o:=.add i r k) ⟨oM,q,oM⟩ jZ.nil) rfl,h.rn,⟨h.ech.lt,fun k d=>?_,fun k d t g=>?_,h.ech.inc⟩,h.lt,fun i j p b m=>?_,fun a p b t m u=>?_⟩;rw[f _ _ (h.lt _ d)];exact h.ech.pos _ d;rw[f _ _ (by have:=h.lt _ d;omega)];exact h.ech.zero _ d t g;rw[f _ _ (h.lt _ b),f _ _ (h.lt _ b)];exact h.red i j p b m;rw[f _ _ m];exact h.zero a p b t m u
structure KI(n C Ct b0:Nat)(x0:Bst)(c r:Nat)(κ:Nat->Nat)(i:Nat)(x:Bst):Prop where
 core:zFy n C x0 c r κ x
 col:∀a,r<a->a<i->x.s a c=0
 same:x.s r c=0->leB b0 n C Ct x
def EBd(n C Ct m:Nat)(X Y:Int)(x:Bst):Prop:=
 leB m n C Ct x∨(0<=Y/\X.natAbs<=m/\Y.natAbs<=m/\leB (2*m*m) n C Ct x)∨(0<=X/\0<=Y/\∃a,1<=a/\leB a n C Ct x/\a<=gx 5 m/\a*(2*X.natAbs*Y.natAbs)<=gx 5 m)
theorem zXJ(a:1<=m):2*m*m*(1+m)<=gx 5 m/\2*m*m*(1+m)*(2*m*m)<=gx 5 m/\m*(1+m)<=2*m*m/\2*m*m<=gx 5 m/\m<=gx 5 m:=by
 rw[zYF];have i:m*1<=m*m:=zG _ a;have j:m*m*1<=m*m*m:=zG _ a;have k:m*m*m*1<=m*m*m*m:=zG _ a;have l:m*m*m*m*1<=m*m*m*m*m:=zG _ a;have b:2*m*m*(1+m)=2*(m*m)+2*(m*m*m):=by
  rw[zAH,jS,zE 2 m m,zE 2 (m*m) m]
 have f:2*m*m*(1+m)*(2*m*m)=4*(m*m*m*m)+4*(m*m*m*m*m):=by
  have c:m*m*m*m=m*m*(m*m):=zE _ _ _;rw[b,c,zE 2 m m];generalize m*m=s;have d:2*s*(2*s)=4*(s*s):=by rw[Nat.mul_mul_mul_comm]
  have e:2*(s*m)*(2*s)=4*(s*s*m):=by rw[Nat.mul_mul_mul_comm,Nat.mul_right_comm s m s]
  rw[zW,d,e]
 have g:m*(1+m)=m+m*m:=by rw[zAH,jS]
 have h:2*m*m=2*(m*m):=zE _ _ _;rw[f,b,g,h];refine⟨oM,oM,oM,oM,oM⟩
theorem EBd.le{X Y:Int}(e:1<=m)(h:EBd n C Ct m X Y x):leB (gx 5 m) n C Ct x:=by
 obtain⟨-,-,-,c,d⟩:=zXJ e;rcases h with h|⟨-,-,-,h⟩|⟨-,-,a,-,h,b,-⟩
 exact h.mono d;exact h.mono c;exact h.mono b
theorem zJI(h:leB m n C Ct x)(a:i<n)(b:j<n):leB m n C Ct (x.swap i j):=by
 have:=zO4 (o:=.swap i j) h ⟨a,b⟩;rwa[show Op.g (.swap i j)=1 from rfl,jS]at this
theorem zYU(h:leB m n C Ct x)(a:i<n):leB m n C Ct (x.neg i):=by
 have:=zO4 (o:=.neg i) h a;rwa[show Op.g (.neg i)=1 from rfl,jS]at this
theorem zUz(x:Bst)(i j t:Nat):(x.swap i j).s i t=x.s j t/\(x.swap i j).s j t=x.s i t/\∀a,a≠i->a≠j->(x.swap i j).s a t=x.s a t:=by
 refine⟨?_,?_,fun a b c=>?_⟩
 .show x.s (swp i j i) t=_
  unfold swp;rw[zB rfl]
 .show x.s (swp i j j) t=_
  unfold swp;split;rename_i e;rw[e];rw[zB rfl]
 show x.s (swp i j a) t=_;unfold swp;rw[zA b,zA c]
theorem KI.swap0(h:KI n C Ct b0 x0 c r κ i x)(y:r<i)(d:i<n)(l:x.s r c=0)(q:x.s i c≠0)(t:EBd n C Ct m (x.s r c) (x.s i c) x):
  KI n C Ct b0 x0 c r κ i (x.swap r i)/\EBd n C Ct m ((x.swap r i).s r c) ((x.swap r i).s i c) (x.swap r i)/\(x.swap r i).s i c=0:=by
 obtain⟨o,u,v⟩:=zUz x r i c;have f:r<n:=oM;rw[o,u];refine⟨⟨h.core.swap f d (xgf _) oM,fun a g b=>?_,fun e=>?_⟩,?_,l⟩;rw[v a oM oM];exact h.col a g b;rw[o]at e;exact absurd e q;rw[l];rcases t with h|⟨g,b,j,k⟩|⟨g,b,a,j,k,p,w⟩
 exact .inl (zJI h f d);exact .inr (.inl ⟨oM,j,by simp,zJI k f d⟩);exact .inr (.inr ⟨b,oM,a,j,zJI k f d,p,by simp⟩)
theorem zZ2{X Y:Nat}(h:X=q*Y+r):(1+q)*(2*Y*r)<=2*X*Y∨Y<r:=by
 rcases zK Y r with h1|h1
 exact .inr h1;refine .inl ?_;have d:q*r<=q*Y:=zG _ h1;have a:(1+q)*r<=X:=by rw[zW,zAR];omega
 have b:(1+q)*(2*Y*r)=2*Y*((1+q)*r):=by rw[zDE]
 have c:2*X*Y=2*Y*X:=by rw[zE,zE,zN X]
 rw[b,c];exact zG _ a
theorem KI.step(h:KI n C Ct b0 x0 c r κ i x)(a1:r<i)(f:i<n)(hc:c<C)(u:1<=m)(hX:x.s r c≠0)(z:x.s i c≠0)(d:EBd n C Ct m (x.s r c) (x.s i c) x)(hB:gx 5 m<B):
  zEn B n C Ct x r i (-(x.s r c/x.s i c))/\KI n C Ct b0 x0 c r κ i ((x.add r i (-(x.s r c/x.s i c))).swap r i)/\EBd n C Ct m (((x.add r i (-(x.s r c/x.s i c))).swap r i).s r c) (((x.add r i (-(x.s r c/x.s i c))).swap r i).s i c) ((x.add r i (-(x.s r c/x.s i c))).swap r i)∧
   (((x.add r i (-(x.s r c/x.s i c))).swap r i).s i c).natAbs<(x.s i c).natAbs:=by
 have j:r<n:=oM;obtain⟨f1,O,P,f4,f5⟩:=zXJ u;have D:=zAP (x.s r c) (x.s i c);have l:=zAk (x.s r c) z;have Y:=Int.emod_lt (x.s r c) z;have X:=zL8 (x.s r c) (x.s i c);obtain⟨q,K⟩:∃q,x.s r c/x.s i c=q:=⟨_,rfl⟩;obtain⟨p,T⟩:∃p,x.s r c%x.s i c=p:=⟨_,rfl⟩;rw[K]at X D ⊢
 rw[T]at D l Y;have Z:(x.add r i (-q)).s r c=p:=by
  show zB4 x.s r i (-q) r c=_;unfold zB4;rw[zB rfl,yE,zZ q];omega
 have L:∀a,a≠r->(x.add r i (-q)).s a c=x.s a c:=fun a R=>by
  show zB4 x.s r i (-q) a c=_;unfold zB4;rw[zA R]
 obtain⟨H,M,s3⟩:=zUz (x.add r i (-q)) r i c;rw[L i oM]at H;rw[Z]at M;have S:(Op.add r i (-q)).ok n:=⟨j,f,oM⟩;have E:∀{a:Nat},leB a n C Ct x->leB (a*(1+q.natAbs)) n C Ct ((x.add r i (-q)).swap r i):=fun h=>by
  have:=zO4 h S;rw[show(Op.add r i (-q)).g=1+q.natAbs by simp[Op.g]]at this;exact zJI this j f
 have F:∀{a:Nat},1<=a->leB a n C Ct x->a*(1+q.natAbs)<=gx 5 m->zEn B n C Ct x r i (-q):=fun b w h3=>zGa w j f oM b (by rw[zY];omega)
 have y:KI n C Ct b0 x0 c r κ i ((x.add r i (-q)).swap r i):=⟨(h.core.add _ j f oM (xgf _) oM).swap j f (xgf _) oM,fun a b w=>by
   rw[s3 a oM oM,L a oM];exact h.col a b w,fun e=>by rw[H]at e;exact absurd e z⟩
 rw[H,M];have G:p.natAbs<(x.s i c).natAbs:=oM;rcases d with d|⟨v,o,t,k⟩|⟨v,o,a,t,k,e5,J⟩
 .have bX:=d.1 r j c hc
  have N:=d.1 i f c hc;have A:m*(1+q.natAbs)<=2*m*m:=zD (zG _ oM) P;exact⟨F u d oM,y,.inr (.inl ⟨l,N,oM,(E d).mono A⟩),G⟩
 .have A:2*m*m*(1+q.natAbs)<=2*m*m*(1+m):=zG _ oM
  have b:1<=2*m*m:=zD u (zJ0 u);have hy:(x.s i c).natAbs*p.natAbs<=m*m:=qO t oM;refine⟨F b k oM,y,.inr (.inr ⟨v,l,_,qM b oM,E k,oM,?_⟩),G⟩;refine zD (qO A ?_) O;rw[zE,zE];exact zG _ hy
 have a0:0<x.s i c:=oM;have W:0<=q:=by rw[<-K];exact zCC v o
 have Q:(x.s r c).natAbs=q.natAbs*(x.s i c).natAbs+p.natAbs:=by
  have h5:((q.natAbs*(x.s i c).natAbs+p.natAbs:Nat):Int)=x.s r c:=by
   rw[zAX,yJ,Int.natAbs_of_nonneg W,Int.natAbs_of_nonneg o,Int.natAbs_of_nonneg l,zZ];exact D
  omega
 have U:1+q.natAbs<=2*(x.s r c).natAbs*(x.s i c).natAbs:=by
  have g1:2*(x.s r c).natAbs*1<=2*(x.s r c).natAbs*(x.s i c).natAbs:=zG _ oM;omega
 have V:(1+q.natAbs)*(2*(x.s i c).natAbs*p.natAbs)<=2*(x.s r c).natAbs*(x.s i c).natAbs:=by
  rcases zZ2 Q with g|g
  exact g;omega
 have I:a*(1+q.natAbs)<=gx 5 m:=zD (zG _ U) J;refine⟨F t k I,y,.inr (.inr ⟨o,l,_,qM t oM,E k,I,?_⟩),G⟩;rw[zE];exact zD (zG _ V) J
def eE(n:Nat):Nat->Nat
 |0=>1
 |r+1=>eE n r*5^(n-(r+1))*2^r
theorem zTD(n:Nat):∀r,1<=eE n r
 |0=>xgf _
 |r+1=>qM (qM (zTD n r) (qG oM)) (qG oM)
theorem zJq(n:Nat)(h:a<=b):eE n a<=eE n b:=by
 obtain⟨d,rfl⟩:=zAV h;clear h;induction d with
 |zero=>exact xgf _
 |succ d c=>
  refine zD c ?_;show _<=eE n (a+d)*_*_;rw[zE];exact zO _ (qM (qG oM) (qG oM))
def eI(n r i:Nat):Nat:=eE n r*5^(i-(r+1))
theorem zJr(n r i:Nat):1<=eI n r i:=qM (zTD n r) (qG oM)
theorem zVg(n r:Nat):eI n r (r+1)=eE n r:=by unfold eI;rw[zAL,zB1,jS]
theorem zOj(h:r<i):eI n r (i+1)=eI n r i*5:=by
 unfold eI;rw[show i+1-(r+1)=(i-(r+1))+1 by omega,qE,zE]
theorem zMA(n r j:Nat)(b:r<n)(a:j<=r):eI n r n*2^j<=eE n (r+1):=by
 show _<=eE n r*5^(n-(r+1))*2^r;exact zG _ (zX oM a)
theorem zX6(a:r<n)(b:i<=n):eI n r i<=eE n (r+1):=by
 refine zD ?_ (zMA n r 0 a oM);rw[zB1,jS];exact zG _ (zX oM oM)
def KO(n C Ct M0:Nat)(x0:Bst)(c r:Nat)(κ:Nat->Nat)(x:Bst):Prop:=zFy n C x0 c r κ x/\leB (gx (eE n r) M0) n C Ct x
def KR(n C Ct M0:Nat)(x0:Bst)(c r:Nat)(κ:Nat->Nat)(i:Nat)(x:Bst):Prop:=KI n C Ct (gx (eE n r) M0) x0 c r κ i x/\leB (gx (eI n r i) M0) n C Ct x
def KEu(n C Ct M0:Nat)(x0:Bst)(c r:Nat)(κ:Nat->Nat)(i:Nat)(x:Bst):Prop:=KI n C Ct (gx (eE n r) M0) x0 c r κ i x/\EBd n C Ct (gx (eI n r i) M0) (x.s r c) (x.s i c) x
theorem KO.start(c:leB M0 n C Ct x0):KO n C Ct M0 x0 0 0 κ x0:=
 ⟨⟨⟨[],jZ.nil,rfl⟩,zH _,⟨fun k b=>oM,fun k b=>oM,fun k b=>oM,fun k l _ e=>oM⟩,fun k b=>oM,fun i j _ d=>oM,fun a _ _ t f=>oM⟩,by
  show leB (gx 1 M0) n C Ct x0
  rw[zXO];exact c⟩
theorem KO.enter(h:KO n C Ct M0 x0 c r κ x):KR n C Ct M0 x0 c r κ (r+1) x:=⟨⟨h.1,fun a b d=>oM,fun _=>h.2⟩,by rw[zVg];exact h.2⟩
theorem KR.enter(h:KR n C Ct M0 x0 c r κ i x):KEu n C Ct M0 x0 c r κ i x:=⟨h.1,.inl h.2⟩
theorem KEu.exit(b:1<=M0)(h:KEu n C Ct M0 x0 c r κ i x)(g:r<i)(f:x.s i c=0):KR n C Ct M0 x0 c r κ (i+1) x:=by
 refine⟨⟨h.1.core,fun a d j=>?_,h.1.same⟩,?_⟩
 .by_cases e:a=i
  .rw[e];exact f
  exact h.1.col a d oM
 rw[zOj g,<-zVt (zJr _ _ _)];exact h.2.le (zD b (zTQ b (zJr _ _ _)))
theorem KR.none(h:KR n C Ct M0 x0 c r κ n x)(f:x.s r c=0):KO n C Ct M0 x0 (c+1) r κ x:=by
 obtain⟨b,o⟩:=h;refine⟨⟨b.core.ops,b.core.rn,b.core.ech,fun k l=>Nat.lt_succ_of_lt (b.core.lt k l),b.core.red,fun a i d t m j=>?_⟩,b.same f⟩;by_cases e:t=c
 .subst e
  by_cases g:a=r
  .rw[g];exact f
  exact b.col a oM d
 exact b.core.zero a i d t oM j
structure KD(n C Ct M0:Nat)(x0:Bst)(c r:Nat)(κ:Nat->Nat)(i:Nat)(x:Bst):Prop where
 core:zFy n C x0 c r κ x
 pos:0<x.s r c
 col:∀a,r<a->a<n->x.s a c=0
 red:∀a,a<i->0<=x.s a c/\x.s a c<x.s r c
 bd:leB (gx (eI n r n*2^i) M0) n C Ct x
theorem KR.pos(h:KR n C Ct M0 x0 c r κ n x)(e:0<x.s r c):KD n C Ct M0 x0 c r κ 0 x:=
 ⟨h.1.core,e,fun a b d=>h.1.col a b d,fun a f=>oM,by rw[zB1,jS];exact h.2⟩
theorem KR.neg(h:KR n C Ct M0 x0 c r κ n x)(b:r<n)(g:x.s r c<0):KD n C Ct M0 x0 c r κ 0 (x.neg r):=by
 have d:∀a t,(x.neg r).s a t=if a=r then-(x.s a t)else x.s a t:=fun a t=>rfl
 refine⟨h.1.core.neg b (xgf _),?_,fun a e f=>?_,fun a i=>oM,?_⟩;rw[d,zB rfl];omega;rw[d,zA oM];exact h.1.col a e f;rw[zB1,jS];exact zYU h.2 b
theorem KD.step(k:1<=M0)(h:KD n C Ct M0 x0 c r κ i x)(F:i<r)(d:r<n)(hc:c<C)(I:gx (eE n (r+1)) M0<B):
  zEn B n C Ct x i r (-(x.s i c/x.s r c))/\KD n C Ct M0 x0 c r κ (i+1) (x.add i r (-(x.s i c/x.s r c))):=by
 obtain⟨z,l,A,D,j⟩:=h;have E:=zAP (x.s i c) (x.s r c);have M:=zAk (x.s i c) (b:=x.s r c) oM;have N:=zAx (x.s i c) l;have v:=zL8 (x.s i c) (x.s r c);obtain⟨q,G⟩:∃q,x.s i c/x.s r c=q:=⟨_,rfl⟩;rw[G]at E v ⊢
 have p:1<=eI n r n*2^i:=qM (zJr _ _ _) (qG oM);have u:1<=gx (eI n r n*2^i) M0:=zD k (zTQ k p);have H:q.natAbs<=gx (eI n r n*2^i) M0:=zD v (j.1 i oM c hc);have O:=zJM u H;have K:2*gx (eI n r n*2^i) M0*gx (eI n r n*2^i) M0=gx (eI n r n*2^(i+1)) M0:=by
  rw[<-qAa,zVt p,qE,zE]
 have L:gx (eI n r n*2^(i+1)) M0<=gx (eE n (r+1)) M0:=zE6 k (zMA n r (i+1) d oM);have f:∀a t,(x.add i r (-q)).s a t=if a=i then x.s i t+-q*x.s r t else x.s a t:=fun a t=>rfl
 have m:=zO4 (o:=.add i r (-q)) j ⟨oM,d,oM⟩;rw[show(Op.add i r (-q)).g=1+q.natAbs by simp[Op.g]]at m;refine⟨zGa j oM d oM u (by rw[zY];omega),⟨z.redAdd _ F d hc,?_,fun a w y=>?_,fun a J=>?_,m.mono oM⟩⟩;rw[f,zA oM];exact l;rw[f,zA oM];exact A a w y;rw[f,f,zA (show ¬ r=i by omega)];split
 .rename_i e
  rw[yE,zZ q];constructor<;>omega
 exact D a oM
theorem KD.exit(y:1<=M0)(h:KD n C Ct M0 x0 c r κ r x)(o:r<n)(hc:c<C):KO n C Ct M0 x0 (c+1) (r+1) (fun k=>if k=r then c else κ k) x:=by
 obtain⟨b,s,u,v,w⟩:=h;have d:∀k,k<r->(if k=r then c else κ k)=κ k:=fun k f=>zA oM
 refine⟨⟨b.ops,o,⟨fun k f=>?_,fun k f=>?_,fun k f t g=>?_,fun k l h A=>?_⟩,fun k f=>?_,fun i j p m _=>?_,fun a p m t z q=>?_⟩,w.mono (zE6 y (zMA n r r o (xgf _)))⟩
 .by_cases e:k=r
  .rw[zB e];exact hc
  rw[d k oM];exact b.ech.lt k oM
 .by_cases e:k=r
  .rw[zB e,e];exact s
  rw[d k oM];exact b.ech.pos k oM
 .skip
  by_cases e:k=r
  .rw[zB e]at g;rw[e];exact b.zero r (xgf _) o t g oM
  rw[d k oM]at g;exact b.ech.zero k oM t g
 .rw[d k oM]
  by_cases e:l=r
  .rw[zB e];exact b.lt k oM
  rw[d l oM];exact b.ech.inc k l h oM
 .by_cases e:k=r
  .rw[zB e];omega
  rw[d k oM];have:=b.lt k oM;omega
 .by_cases e:j=r
  .rw[zB e,e];exact v i oM
  rw[d j oM];exact b.red i j p oM trivial
 by_cases e:t=c
 .rw[e];exact u a oM m
 exact b.zero a oM m t oM q
theorem KO.form{R C:Nat}{A:Nat->Nat->Int}(h:KO R C R M0 ⟨A,idf,idf⟩ c r κ x)(s:c=C∨r=R):zEh R C r κ A x.s x.t (fun a b=>x.i b a):=by
 obtain⟨f,u⟩:=h;obtain⟨l,j,i⟩:=f.ops;rw[zHL]at i;have m:x.s=zBF l A:=by rw[i]
 have n:x.t=zBF l idf:=by rw[i]
 have k:x.i=zNh l idf:=by rw[i]
 refine⟨⟨f.rn,f.ech,f.red,fun a o p t q=>?_⟩,fun a d b g=>?_,fun a d b g=>?_,fun a d b g=>?_⟩
 .rcases s with e|e
  .exact f.zero a o p t oM q
  omega
 rw[m,n];exact zKG j A a d b;rw[n,k];exact zIP j (P:=idf) (Q:=idf) (C:=R) (fun a d b g=>zIG R a d b g) a d b g;rw[m,k];exact zEZ j A a d b
end
end Go.Proofs.YtkidaebmhlijlaaGreat
