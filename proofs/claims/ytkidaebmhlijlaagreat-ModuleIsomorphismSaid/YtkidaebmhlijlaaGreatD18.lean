/- Joined. -/
import Derived.Test.YtkidaebmhlijlaaGreatD12
import Derived.Test.YtkidaebmhlijlaaGreatD13
import Derived.Test.YtkidaebmhlijlaaGreatD14
set_option linter.unusedVariables false
set_option linter.unusedSimpArgs false
set_option linter.unusedSectionVars false
set_option maxHeartbeats 16000000
set_option maxRecDepth 100000
variable{d g m0 m1 m2 m3 s y:Int}{B C Cu Cw D K M N R T b e h i j k n r r' t:Nat}{f x:Nat->Int}{c c':Nat->Nat}{A F G H P Q:Nat->Nat->Int}
namespace Go.Proofs.YtkidaebmhlijlaaGreat
open Go.RowKit
def qAX(n k:Nat):List Nat:=(List.range n).take k++(List.range n).drop (k+1)
def lap(n:Nat)(M:List (List Int))(j:Nat):Int:=zT j fun t=>sg1 t*(ent M 0 t*det n (mnr (ent M) 0 t))
theorem zI0(h:∃t,t<r/\x t≠0):∃t,t<r/\x t≠0/\∀s,s<t->x s=0:=by
 obtain⟨t,ht⟩:=h;induction t using Nat.strongRecOn with
 | ind t ih=>
  by_cases he:∃s,s<t/\x s≠0
  ·obtain⟨s,h1,h2⟩:=he
   exact ih s h1 ⟨oM,h2⟩
  exact⟨t,ht.1,ht.2,fun s hs=>zL fun hn=>he ⟨s,hs,hn⟩⟩
theorem zLO(hE:Ech C r c H)(ht:t<r)(hx:∀s,s<t->x s=0):(zT r fun s=>x s*H s (c t))=x t*H t (c t):=
 zAB ht fun s hs hne=>by
  rcases zG s t with h|h
  rw[hx s h,zX];rw[hE.zero s hs _ (hE.inc t s oM hs),zP]
theorem zNn(hE:Ech C r c H)(ht:t<r)(hx:∀s,s<t->x s=0)(hb:b<c t):(zT r fun s=>x s*H s b)=0:=
 zAS fun s hs=>by
  rcases zG s t with h|h
  rw[hx s h,zX];have:b<c s:=by
   rcases zG t s with h2|h2
   have:=hE.inc t s h2 hs;omega;obtain rfl:s=t:=oM;exact hb
  rw[hE.zero s hs _ this,zP]
theorem zHx{v:Nat->Int}(hE:Ech C r c H)(hv:∀b,b<C->v b=zT r fun t=>x t*H t b){d:Nat}(hd:d<C)(h0:v d≠0)(hz:∀b,b<d->v b=0):
  ∃j,j<r/\c j=d/\v d=x j*H j (c j):=by
 have hex:∃t,t<r/\x t≠0:=zL fun hn=>h0 (by
  rw[hv d hd];exact zAS fun t ht=>by
   have:x t=0:=zL fun h=>hn ⟨t,ht,h⟩
   rw[this,zX])
 obtain⟨t,ht,hx,hbef⟩:=zI0 hex;have h1:=zLO hE ht hbef;have h2:v (c t)=x t*H t (c t):=by rw[hv _ (hE.lt t ht),h1]
 have h3:v (c t)≠0:=by
  rw[h2];exact Int.mul_ne_zero hx (by have:=hE.pos t ht;omega)
 have h4:c t=d:=by
  rcases yK (c t) d with h|h|h
  exact absurd (hz _ h) h3;exact h;exact absurd (by rw[hv d hd];exact zNn hE ht hbef h) h0
 exact⟨t,ht,h4,by rw[<-h4];exact h2⟩
def zKB(n C:Nat)(H G:Nat->Nat->Int):Prop:=∃X:Nat->Nat->Int,∀a,a<n->∀b,b<C->G a b=zT n fun t=>X a t*H t b
theorem Hnf.span(hH:Hnf C n r c H)(h:zKB n C H G):∃X:Nat->Nat->Int,∀a,a<n->∀b,b<C->G a b=zT r fun t=>X a t*H t b:=by
 obtain⟨X,e⟩:=h;refine⟨X,fun a ha b hb=>?_⟩;rw[e a ha b hb];exact zDm hH.le fun t h2 h3=>by rw[hH.zero t h2 h3 b hb,zP]
theorem zPG(hH:Hnf C n r c H)(hG:Hnf C n r' c' G)(h1:zKB n C H G)(h2:zKB n C G H):∀k,k<r->k<r'/\c' k=c k:=by
 obtain⟨X,hX⟩:=hH.span h1;obtain⟨Y,hY⟩:=hG.span h2;have cG:∀k,k<r'->∃j,j<r/\c j=c' k:=fun k hk=>by
  obtain⟨j,a,b,-⟩:=zHx hH.ech (v:=G k) (x:=X k) (fun b hb=>hX k (zJ hk hG.le) b hb) (hG.ech.lt k hk) (by have:=hG.ech.pos k hk;omega) (hG.ech.zero k hk);exact⟨j,a,b⟩
 have cH:∀k,k<r->∃j,j<r'/\c' j=c k:=fun k hk=>by
  obtain⟨j,a,b,-⟩:=zHx hG.ech (v:=H k) (x:=Y k) (fun b hb=>hY k (zJ hk hH.le) b hb) (hH.ech.lt k hk) (by have:=hH.ech.pos k hk;omega) (hH.ech.zero k hk);exact⟨j,a,b⟩
 intro k;induction k using Nat.strongRecOn with
 | ind k ih=>
  intro hk;obtain⟨j,hj,ej⟩:=cH k hk;have hkj:k<=j:=by
   refine zAD fun h=>?_
   have e1:=(ih j h oM).2;have:=hH.ech.inc j k h hk;omega
  have hkr:k<r':=oM;refine⟨hkr,?_⟩;obtain⟨i,hi,ei⟩:=cG k hkr;have h3:c' k<=c' j:=by
   rcases zG k j with h|h
   exact zAp (hG.ech.inc k j h hj);obtain rfl:k=j:=oM;exact xgf _
  have h4:k<=i:=by
   refine zAD fun h=>?_
   have e1:=(ih i h oM).2;have:=hG.ech.inc i k h hkr;omega
  have h5:c k<=c i:=by
   rcases zG k i with h|h
   exact zAp (hH.ech.inc k i h hi);obtain rfl:k=i:=oM;exact xgf _
  omega
theorem zQO(hH:Hnf C n r c H)(hG:Hnf C n r' c' G)(h1:zKB n C H G)(h2:zKB n C G H):
  r=r'/\(∀k,k<r->c' k=c k)/\∀a,a<n->∀b,b<C->G a b=H a b:=by
 have k1:=zPG hH hG h1 h2;have k2:=zPG hG hH h2 h1;have hr:r=r':=by
  have a1:r<=r':=by
   rcases qN r with h|h
   omega;have:=(k1 (r-1) oM).1;omega
  have a2:r'<=r:=by
   rcases qN r' with h|h
   omega;have:=(k2 (r'-1) oM).1;omega
  omega
 subst hr;have hc:∀k,k<r->c' k=c k:=fun k hk=>(k1 k hk).2
 obtain⟨X,hX⟩:=hH.span h1;obtain⟨Y,hY⟩:=hG.span h2;have hp:∀k,k<r->G k (c k)=H k (c k):=fun k hk=>by
  obtain⟨j,j1,j2,j3⟩:=zHx hH.ech (v:=G k) (x:=X k) (fun b hb=>hX k (zJ hk hG.le) b hb) (hG.ech.lt k hk) (by have:=hG.ech.pos k hk;omega) (hG.ech.zero k hk);obtain⟨i,i1,i2,i3⟩:=zHx hG.ech (v:=H k) (x:=Y k) (fun b hb=>hY k (zJ hk hH.le) b hb) (hH.ech.lt k hk) (by have:=hH.ech.pos k hk;omega) (hH.ech.zero k hk);have ej:j=k:=by
   rw[hc k hk]at j2;rcases yK j k with h|h|h
   have:=hH.ech.inc j k h hk;omega;exact h;have:=hH.ech.inc k j h j1;omega
  have ei:i=k:=by
   rw[hc i i1]at i2;rcases yK i k with h|h|h
   have:=hH.ech.inc i k h hk;omega;exact h;have:=hH.ech.inc k i h i1;omega
  subst ej;subst ei;rw[hc _ hk]at j3 i3;exact zDG (by have:=hG.ech.pos _ hk;rw[hc _ hk]at this;omega) (by have:=hH.ech.pos _ hk;omega) ⟨Y _ _,by rw[i3,qH]⟩ ⟨X _ _,by rw[j3,qH]⟩
 refine⟨rfl,hc,fun a ha b hb=>?_⟩;rcases zG a r with har|har
 ·have hD:∀b,b<C->G a b-H a b=zT r fun t=>(X a t-(if t=a then 1 else 0))*H t b:=fun b hb=>by
   have e1:(zT r fun t=>(if t=a then(1:Int)else 0)*H t b)=H a b:=by
    rw[zAB har (fun i _ hne=>by rw[if_neg hne,zX]),if_pos rfl,jX]
   have e2:=zPq r 1 (-1) (fun t=>X a t*H t b) (fun t=>(if t=a then(1:Int)else 0)*H t b);have e4:(zT r fun t=>(X a t-(if t=a then 1 else 0))*H t b)=zT r fun t=>1*(X a t*H t b)+(-1)*((if t=a then(1:Int)else 0)*H t b):=zF fun t _=>by
    rw[zDz];omega
   rw[hX a ha b hb,e4,e2,e1];omega
  have hz:∀t,t<r->X a t-(if t=a then 1 else 0)=0:=zL fun hn=>by
   have hex:∃t,t<r/\X a t-(if t=a then 1 else 0)≠0:=zL fun h=>hn fun t ht=>zL fun h2=>h ⟨t,ht,h2⟩
   obtain⟨t,ht,hx,hbef⟩:=zI0 hex;have e1:=zLO hH.ech ht hbef;rw[<-hD _ (hH.ech.lt t ht)]at e1;have hpos:=hH.ech.pos t ht;have hlow:∀y:Int,y≠0->H t (c t)<=(y*H t (c t)).natAbs:=fun y hy=>by
    rw[qV];have:1<=y.natAbs:=oM;have h5:=zM (H t (c t)).natAbs this;omega
   have h6:=hlow _ hx;rw[<-e1]at h6;rcases yK t a with h|h|h
   ·have f1:=hH.ech.zero a har (c t) (hH.ech.inc t a h har)
    have f2:=hG.ech.zero a har (c t) (by rw[hc a har];exact hH.ech.inc t a h har);rw[f1,f2]at h6;simp at h6;omega
   ·subst h
    rw[hp t ht]at h6;simp at h6;omega
   obtain⟨f1,f2⟩:=hH.red a t h ht trivial;obtain⟨f3,f4⟩:=hG.red a t h ht trivial;rw[hc t ht,hp t ht]at f4;rw[hc t ht]at f3;omega
  have e4:=hD b hb;rw[zAS (fun t ht=>by rw[hz t ht,zX])]at e4;omega
 rw[hG.zero a har ha b hb,hH.zero a har ha b hb]
def rnds:List (List Op × List Op)->W5->W5
 | [],z=>z
 |p::L,z=>rnds L (rnd z p.1 p.2)
def okL(R C:Nat)(L:List (List Op × List Op)):Prop:=∀p∈L,jS R p.1/\jS C p.2
theorem okL.cons{p:List Op × List Op}{L:List (List Op × List Op)}(h1:jS R p.1)(h2:jS C p.2)(h:okL R C L):okL R C (p::L):=fun q hq=>by
 rcases List.mem_cons.1 hq with rfl|hq
 exact⟨h1,h2⟩;exact h q hq
theorem Rel.rnds{L:List (List Op × List Op)}(hL:okL R C L):∀{z:W5},Rel R C A z->Rel R C A (rnds L z):=by
 induction L with
 |nil=>intro z h;exact h
 |cons p L ih=>
  intro z h;exact ih (fun q hq=>hL q (qM _ hq)) (h.rnd (hL p (zAP ..)).1 (hL p (zAP ..)).2)
theorem zWW(L:List (List Op × List Op)):∀{z y:W5},z.s=y.s->(rnds L z).s=(rnds L y).s:=by
 induction L with
 |nil=>intro z y h;exact h
 |cons p L ih=>
  intro z y h;refine ih ?_;show trF (zBI p.2 (trF (zBI p.1 z.s)))=trF (zBI p.2 (trF (zBI p.1 y.s)));rw[h]
theorem zVB{z:W5}(hR:R<=4)(h1:1<=h)(hA:leM h R C A)(hz:Rel R C A z)(hH:Hnf C R r (fun k=>k) z.s)(hcol:∀a,a<R->∀b,r<=b->b<C->z.s a b=0):(jB r (fun i=>z.s i i)).natAbs<=24*h^4:=
 zPH (zB hH.le hR) h1 hH hcol hA (P:=z.u) (Q:=fun t b=>z.w b t) (P':=fun a s=>z.v s a) (Q':=fun t b=>z.x t b) hz.s hz.back
theorem zPQ{z:W5}(hR:R<=4)(h1:1<=h)(hA:leM h R C A)(hz:Rel R C A z)(hF:Low R C r z.s):(jB r (fun i=>z.s i i)).natAbs<=24*h^4:=
 zPH (A:=trF A) (H:=trF z.s) (zB hF.le hR) h1 hF.hnf (fun a ha b h2 h3=>hF.row b h2 h3 a ha) (zKr hA) (P:=z.w) (Q:=fun t b=>z.u b t) (P':=fun a s=>z.x s a) (Q':=fun t b=>z.v t b)
  (fun a ha b hb=>by
   show z.s b a=_;rw[hz.s b hb a ha];simp only[<-yX];rw[zBj];refine zF fun t ht=>zF fun s hs=>?_
   show z.u b s*(A s t*z.w a t)=z.w a t*(A s t*z.u b s);rw[jU,qH (z.u b s),qH (A s t),qK,jU,qH (z.u b s)];grind)
  (fun a ha b hb=>by
   show A b a=_;rw[hz.back b hb a ha];simp only[<-yX];rw[zBj];refine zF fun t ht=>zF fun s hs=>?_
   show z.v s b*(z.s s t*z.x t a)=z.x t a*(z.s s t*z.v s b);grind)
theorem zSr(hF:Low R C r F)(hT:(jB r (fun i=>F i i)).natAbs<=T):leM T R C F:=
 zKr (zMj hF.hnf (fun a ha b h2 h3=>hF.row b h2 h3 a ha) hT)
theorem zSy(hF:Low R C r F):0<mu r F:=zAI fun j hj=>zAI fun i hi=>hF.hnf.ech.pos i oM
theorem zJc{a b:Int}(ha:0<a)(hb:0<b)(h:a∣b)(hne:a≠b):2*a<=b:=by
 obtain⟨k,rfl⟩:=h;have hk:0<k:=by
  rcases zCo 0 k with h|h
  exact h;have:=zAw (zBa ha) h;omega
 have hk1:k≠1:=fun e=>hne (by rw[e,zAT])
 have:a*2<=a*k:=zAX oM oM;omega
theorem zTj{B:Nat}(hR:R<=4)(hC:C<=4)(h1:1<=h)(hA:leM h R C A)(hT1:1<=T)(hhT:24*h^4<=T):∀(N:Nat) (z zg:W5) (M:Nat),Low R C r z.s->leW M R C Cu Cw z->zg.s=z.s->Rel R C A zg->mu r z.s<2^N->
  1<=M->M*(GE T*GE T)^(N+1)<B->∃f rr L,(∀g,f<=g->zIO B R C Cu Cw g rr z=some (rnds L z))/\okL R C L/\leW (M*(GE T*GE T)^(N+1)) R C Cu Cw (rnds L z)/\Low R C r (rnds L z).s/\zGl R C (rnds L z).s:=by
 intro N;have hG2:1<=GE T*GE T:=yC (zJH hT1) (zJH hT1);induction N with
 |zero=>
  intro z zg M hF hM hs hz hmu hM1 hB;have:=zSy hF;omega
 | succ N ih=>
  intro z zg M hF hM hs hz hmu hM1 hB;have hsmall:leM T R C z.s:=zSr hF (zB (by
   have:=zPQ hR h1 hA hz (by rw[hs];exact hF);rwa[hs]at this) hhT)
  have hB1:M*(GE T*GE T)<B:=zK (zH _ (zBM oM _)) hB;obtain⟨f,l1,l2,r1,c1,r2,c2,a1,a2,a3,a4,a5,a6⟩:=zK5 hR hC hM hsmall hT1 hM1 hB1 (fun l r' c hl hH=>by
   obtain⟨e,hH',hcol⟩:=first hF hl hH
   have:=zVB hR h1 hA (hz.rows hl) (by rw[hs];exact hH') (by rw[hs];exact hcol);rw[hs]at this;exact zMj hH' hcol (zB this hhT))
  obtain⟨b1,b2,b3⟩:=zZX (h:=h) (A:=A) hR hF a2 a3 a5 a6;have hpow:M*(GE T*GE T)*(GE T*GE T)^(N+1)=M*(GE T*GE T)^(N+1+1):=by
   rw[zC,<-Nat.pow_succ']
  by_cases hd:zGl R C (rnd z l1 l2).s
  ·refine⟨f,1,[(l1,l2)],fun g hg=>?_,okL.cons a2 a3 (fun p hp=>by cases hp),a4.mono (zH _ (zBM oM _)),b1,hd⟩
   unfold zIO;rw[a1 g hg,zAE,if_pos hd];rfl
  have hne:mu r (rnd z l1 l2).s≠mu r z.s:=fun e=>hd (b3 e)
  have hh:=zJc (zSy b1) (zSy hF) b2 hne;have hmu':mu r (rnd z l1 l2).s<2^N:=by
   have:(2:Int)^(N+1)=2^N*2:=Int.pow_succ 2 N;omega
  obtain⟨f',rr,L,k1,k2,k3,k4,k5⟩:=ih (rnd z l1 l2) (rnd zg l1 l2) (M*(GE T*GE T)) b1 a4 (by
   show trF (zBI l2 (trF (zBI l1 zg.s)))=trF (zBI l2 (trF (zBI l1 z.s)));rw[hs]) (hz.rnd a2 a3) hmu' (yC hM1 hG2) (by rw[hpow];exact hB)
  refine⟨max f f',rr+1,(l1,l2)::L,fun g hg=>?_,okL.cons a2 a3 k2,?_,k4,k5⟩
  ·unfold zIO
   rw[a1 g oM,zAE,if_neg hd,k1 g oM];rfl
  rw[<-hpow];exact k3
theorem zM0(h0:∀i,i<n->0<f i)(h:∀i,i<n->f i<=(D:Int)):jB n f<=((D^n:Nat):Int):=by
 induction n with
 |zero=>exact zDy _
 |succ n ih=>
  have h1:=ih (fun i hi=>h0 i oM) (fun i hi=>h i oM);have h2:=h n oM;have h3:=h0 n oM;have h4:=zAI (n:=n) (f:=f) fun i hi=>h0 i oM
  have h5:jB n f*f n<=jB n f*(D:Int):=zAX h2 oM;have h6:jB n f*(D:Int)<=((D^n:Nat):Int)*(D:Int):=yM h1 oM;have h7:((D^(n+1):Nat):Int)=((D^n:Nat):Int)*(D:Int):=by rw[qI,yS]
  unfold jB;omega
theorem zKz(h:∀i,i<r->0<f i):∀j,j<=r->jB j f<=jB r f:=by
 intro j hj;obtain⟨d,rfl⟩:=zAc hj;clear hj;induction d with
 |zero=>exact zDy _
 |succ d ih=>
  have h1:=ih (fun i hi=>h i oM);have h2:0<jB (j+d) f:=zAI fun i hi=>h i oM
  have h3:=h (j+d) oM;have h4:jB (j+d) f*1<=jB (j+d) f*f (j+d):=zAX oM oM;show _<=jB (j+d) f*f (j+d);omega
theorem zYh(hr:r<=4)(hF:Low R C r F)(hD:(jB r (fun i=>F i i)).natAbs<=D)(hD1:1<=D):mu r F<=((D^4:Nat):Int):=by
 have hp:∀i,i<r->0<F i i:=fun i hi=>hF.hnf.ech.pos i hi
 have h1:=zM0 (n:=r) (f:=fun j=>jB (j+1) fun i=>F i i) (D:=D) (fun j hj=>zAI fun i hi=>hp i oM) (fun j hj=>by
  have:=zKz hp (j+1) oM;omega)
 have h2:D^r<=D^4:=zDM hD1 hr;unfold mu;omega
theorem zVZ{z:W5}(hR:R<=4)(hC:C<=4)(h1:1<=h)(hA:leM h R C A)(hzs:z.s=A)(hM:leW M R C Cu Cw z)(hM1:1<=M)(hT:24*(8*h)^4<=T)(hN:(24*h^4)^4<2^N)(hB:M*(GE T*GE T)^(N+2)<B):
  ∃f rr L r,zIO B R C Cu Cw f rr z=some (rnds L z)/\okL R C L/\leW (M*(GE T*GE T)^(N+2)) R C Cu Cw (rnds L z)/\Low R C r (rnds L z).s/\zGl R C (rnds L z).s/\(jB r (fun i=>(rnds L z).s i i)).natAbs<=24*h^4:=by
 have hh4:h<=h^4:=zBM oM _;have hhT:24*h^4<=T:=zB (zH _ (yV oM _)) hT;have hT1:1<=T:=oM;have hG2:1<=GE T*GE T:=yC (zJH hT1) (zJH hT1);have hg0:Rel R C A ⟨A,idf,idf,idf,idf⟩:=Rel.start R C A;have hB1:M*(GE T*GE T)<B:=zK (zH _ (zBM oM _)) hB;obtain⟨f,l1,l2,r1,c1,r2,c2,a1,a2,a3,a4,a5,a6⟩:=zK5 hR hC hM (by rw[hzs];exact hA.mono oM) hT1 hM1 hB1 (fun l r' c hl hH=>by
  rw[hzs]at hH ⊢
  exact(zSU hR h1 hH hA (fun a ha b _=>zEv hl A a ha b) (zJl hl (zJS R))).mono hT)
 obtain⟨-,-,hL⟩:=second a5 a3 a6;have hLow:Low R C r1 (rnd z l1 l2).s:=hL;have hgs:(rnd ⟨A,idf,idf,idf,idf⟩ l1 l2).s=(rnd z l1 l2).s:=by
  show trF (zBI l2 (trF (zBI l1 A)))=trF (zBI l2 (trF (zBI l1 z.s)));rw[hzs]
 have hg1:=hg0.rnd a2 a3;have hprod:∀L,okL R C L->∀r,Low R C r (rnds L z).s->(jB r (fun i=>(rnds L z).s i i)).natAbs<=24*h^4:=fun L hL' r hlow=>by
  have e:(rnds L ⟨A,idf,idf,idf,idf⟩).s=(rnds L z).s:=zWW L hzs.symm;have:=zPQ hR h1 hA (Rel.rnds hL' hg0) (by rw[e];exact hlow);rwa[e]at this
 by_cases hd:zGl R C (rnd z l1 l2).s
 ·have hok:okL R C [(l1,l2)]:=okL.cons a2 a3 (fun p hp=>by cases hp)
  refine⟨f,1,[(l1,l2)],r1,?_,hok,a4.mono (zH _ (zBM oM _)),hLow,hd,hprod _ hok _ hLow⟩;unfold zIO;rw[a1 f (xgf _),zAE,if_pos hd];rfl
 have hpow:M*(GE T*GE T)*(GE T*GE T)^(N+1)=M*(GE T*GE T)^(N+2):=by
  rw[zC,<-Nat.pow_succ']
 have hmu:mu r1 (rnd z l1 l2).s<2^N:=by
  have hp1:=hprod [(l1,l2)] (okL.cons a2 a3 (fun p hp=>by cases hp)) r1 hLow;have:=zYh (zB hLow.le hR) hLow hp1 oM;have e:((2^N:Nat):Int)=(2:Int)^N:=by rw[zCh];rfl
  omega
 obtain⟨f',rr,L,k1,k2,k3,k4,k5⟩:=zTj hR hC h1 hA hT1 hhT N (rnd z l1 l2) (rnd ⟨A,idf,idf,idf,idf⟩ l1 l2) (M*(GE T*GE T)) hLow a4 hgs hg1 hmu (yC hM1 hG2) (by rw[hpow];exact hB);have hok:okL R C ((l1,l2)::L):=okL.cons a2 a3 k2;refine⟨max f f',rr+1,(l1,l2)::L,r1,?_,hok,?_,k4,k5,hprod _ hok _ k4⟩
 ·unfold zIO
  rw[a1 _ oM,zAE,if_neg hd,k1 _ oM];rfl
 rw[<-hpow];exact k3
theorem qAS:∀m n:Nat,∃s t:Int,s*(m:Int)+t*(n:Int)=((Nat.gcd m n:Nat):Int):=by
 intro m;induction m using Nat.strongRecOn with
 | ind m ih=>
  intro n;rcases qN m with h|h
  ·subst h
   exact⟨0,1,by rw[Nat.gcd_zero_left];omega⟩
  obtain⟨s,t,e⟩:=ih (n%m) (yH _ h) m;refine⟨t-s*((n/m:Nat):Int),s,?_⟩;rw[Nat.gcd_rec,<-e];have h2:(n:Int)=(m:Int)*((n/m:Nat):Int)+((n%m:Nat):Int):=by
   have:=zAA n m;exact_mod_cast this.symm
  generalize ((n/m:Nat):Int)=q at*;generalize ((n%m:Nat):Int)=r at*;rw[h2];grind
theorem qAR{x:Int}(hx:0<=x)(hy:0<=y):∃s t:Int,s*x+t*y=((Int.gcd x y:Nat):Int):=by
 obtain⟨s,t,e⟩:=qAS x.natAbs y.natAbs;refine⟨s,t,?_⟩;rw[show((x.natAbs:Nat):Int)=x by omega,show((y.natAbs:Nat):Int)=y by omega]at e;exact e
def bl(f:Nat->Int)(i j:Nat)(m0 m1 m2 m3:Int)(a:Nat):Int:=if a=i then m0*f i+m1*f j else if a=j then m2*f i+m3*f j else f a
theorem zJM(n:Nat)(F:Nat->Nat->Int)(i j:Nat)(m0 m1 m2 m3:Int)(X:Nat->Int)(a:Nat):
  zT n (fun t=>jE F i j m0 m1 m2 m3 a t*X t)=bl (fun a=>zT n fun t=>F a t*X t) i j m0 m1 m2 m3 a:=by
 unfold bl jE;split
 ·rw[<-yX,<-yX,<-zBQ]
  exact zF fun t ht=>by rw[zA2,qK,qK]
 split
 ·rw[<-yX,<-yX,<-zBQ]
  exact zF fun t ht=>by rw[zA2,qK,qK]
 rfl
theorem zKS(n:Nat)(F:Nat->Nat->Int)(i j:Nat)(m0 m1 m2 m3:Int)(X:Nat->Int)(a:Nat):
  zT n (fun t=>X t*jE F i j m0 m1 m2 m3 a t)=bl (fun a=>zT n fun t=>X t*F a t) i j m0 m1 m2 m3 a:=by
 rw[zF (g:=fun t=>jE F i j m0 m1 m2 m3 a t*X t) (fun t ht=>qH _ _),zJM];unfold bl;dsimp only;rw[zF (g:=fun t=>F i t*X t) (f:=fun t=>X t*F i t) (fun t ht=>qH _ _),zF (g:=fun t=>F j t*X t) (f:=fun t=>X t*F j t) (fun t ht=>qH _ _),zF (g:=fun t=>F a t*X t) (f:=fun t=>X t*F a t) (fun t ht=>qH _ _)]
theorem zML{m0 m1 m2 m3 n0 n1 n2 n3:Int}(hi:i<n)(hj:j<n)(hij:i≠j)(h:∀a,a<n->∀b,b<n->dot n P Q a b=idf a b)
  (e0:m0*n0+m1*n1=1) (e1:m0*n2+m1*n3=0) (e2:m2*n0+m3*n1=0) (e3:m2*n2+m3*n3=1):∀a,a<n->∀b,b<n->dot n (jE P i j m0 m1 m2 m3) (jE Q i j n0 n1 n2 n3) a b=idf a b:=by
 intro a ha b hb;unfold dot;rw[zJM];have e:∀a,a<n->zT n (fun t=>P a t*jE Q i j n0 n1 n2 n3 b t)=bl (fun b=>idf a b) i j n0 n1 n2 n3 b:=fun a ha=>by
  rw[zKS];have g:∀b,b<n->zT n (fun t=>P a t*Q b t)=idf a b:=fun b hb=>h a ha b hb
  unfold bl;dsimp only;rw[g i hi,g j hj,g b hb]
 have hji:¬ j=i:=fun h=>hij h.symm
 unfold bl;dsimp only;rw[e i hi,e j hj,e a ha];unfold bl idf;by_cases a1:a=i
 ·by_cases b1:b=i
  ·subst a1;subst b1;simp[hij,hji];omega
  by_cases b2:b=j
  ·subst a1;subst b2;simp[hij,hji];omega
  have b3:¬ i=b:=fun h=>b1 h.symm
  have b4:¬ j=b:=fun h=>b2 h.symm
  subst a1;simp[b1,b2,b3,b4]
 by_cases a2:a=j
 ·by_cases b1:b=i
  ·subst a2;subst b1;simp[hij,hji];omega
  by_cases b2:b=j
  ·subst a2;subst b2;simp[hij,hji];omega
  have b3:¬ i=b:=fun h=>b1 h.symm
  have b4:¬ j=b:=fun h=>b2 h.symm
  subst a2;simp[b1,b2,b3,b4,hji]
 by_cases b1:b=i
 ·subst b1;simp[a1,a2]
 by_cases b2:b=j
 ·subst b2;simp[a1,a2,hji]
 simp[a1,a2,b1,b2]
theorem zRF{g:Nat->Int}(hi:i<n)(hj:j<n)(hij:i≠j)(h:∀t,t<n->t≠i->t≠j->f t=g t)(h1:f i+f j=g i+g j):zT n f=zT n g:=
 zJy (d:=f i-g i) hi hj hij h oM oM
theorem zMK{P Q:Nat->Nat->Int}{m0 m1 m2 m3 n0 n1 n2 n3:Int}(hi:i<n)(hj:j<n)(hij:i≠j)
  (e0:n0*m0+n2*m2=1) (e1:n0*m1+n2*m3=0) (e2:n1*m0+n3*m2=0) (e3:n1*m1+n3*m3=1) (a b:Nat):cod n (jE Q i j n0 n1 n2 n3) (jE P i j m0 m1 m2 m3) a b=cod n Q P a b:=by
 refine zRF hi hj hij (fun t ht h1 h2=>?_) ?_;unfold jE;rw[if_neg h1,if_neg h1,if_neg h2,if_neg h2];unfold jE;have hji:¬ j=i:=fun h=>hij h.symm
 simp only[if_true,if_neg hji];generalize P i b=p;generalize P j b=q;generalize Q i a=r;generalize Q j a=s;have:(n0*r+n1*s)*(m0*p+m1*q)+(n2*r+n3*s)*(m2*p+m3*q)=r*p*(n0*m0+n2*m2)+r*q*(n0*m1+n2*m3)+s*p*(n1*m0+n3*m2)+s*q*(n1*m1+n3*m3):=by grind
 rw[this,e0,e1,e2,e3];omega
theorem zUh{z:W5}{t:Int}(h:Rel R C A z)(hd:zGl R C z.s)(hij:i<j)(hj:j<min R C)(hg:Int.gcd (z.s i i) (z.s j j)≠0)(hb:s*z.s i i+t*z.s j j=((Int.gcd (z.s i i) (z.s j j):Nat):Int)):Rel R C A (zZC z i j s t):=by
 obtain⟨u0,hu0⟩:(((Int.gcd (z.s i i) (z.s j j):Nat):Int))∣z.s i i:=zBW ..;obtain⟨v,hv⟩:(((Int.gcd (z.s i i) (z.s j j):Nat):Int))∣z.s j j:=zB9 ..;obtain⟨g,hgg⟩:∃g:Int,((Int.gcd (z.s i i) (z.s j j):Nat):Int)=g:=⟨_,rfl⟩;have hg0:g≠0:=by rw[<-hgg];omega
 rw[hgg]at hb hu0 hv;have q1:z.s i i/g=u0:=by rw[hu0];exact zBL _ hg0
 have q2:z.s j j/g=v:=by rw[hv];exact zBL _ hg0
 have hstuv:s*u0+t*v=1:=by
  have:g*(s*u0+t*v)=g*1:=by rw[hu0,hv]at hb;grind
  exact zAW hg0 this
 have hi':i<R/\i<C/\j<R/\j<C:=oM;obtain⟨hiR,hiC,hjR,hjC⟩:=hi';have hne:i≠j:=oM;have hji:¬ j=i:=oM;refine⟨fun a ha b hb'=>?_,?_,fun a ha b hb'=>?_,?_,fun a ha b hb'=>?_⟩
 ·show zIr z.s i j a b=zT R fun s'=>jE z.u i j s t (-(z.s j j/_)) (z.s i i/_) a s'*zT C fun t'=>A s' t'*jE z.w i j 1 1 (-(t*(z.s j j/_))) (1-t*(z.s j j/_)) b t'
  unfold zIr;rw[hgg,q1,q2];have e1:∀s',zT C (fun t'=>A s' t'*jE z.w i j 1 1 (-(t*v)) (1-t*v) b t')=bl (fun b=>zT C fun t'=>A s' t'*z.w b t') i j 1 1 (-(t*v)) (1-t*v) b:=fun s'=>zKS _ _ _ _ _ _ _ _ _ _
  simp only[e1];rw[zJM];have e2:∀a,a<R->zT R (fun s'=>z.u a s'*bl (fun b=>zT C fun t'=>A s' t'*z.w b t') i j 1 1 (-(t*v)) (1-t*v) b)=bl (fun b=>z.s a b) i j 1 1 (-(t*v)) (1-t*v) b:=fun a ha=>by
   have g1:∀b,b<C->z.s a b=zT R fun s=>z.u a s*zT C fun t=>A s t*z.w b t:=fun b hb=>h.s a ha b hb
   unfold bl;dsimp only;split
   ·rw[g1 i hiC,g1 j hjC,<-yX,<-yX,<-zBQ]
    exact zF fun s' _=>by rw[zCb,jU (z.u a s'),jU (z.u a s')]
   split
   ·rw[g1 i hiC,g1 j hjC,<-yX,<-yX,<-zBQ]
    exact zF fun s' _=>by rw[zCb,jU (z.u a s'),jU (z.u a s')]
   rw[g1 b hb']
  have hout:bl (fun a=>zT R fun s'=>z.u a s'*bl (fun b=>zT C fun t'=>A s' t'*z.w b t') i j 1 1 (-(t*v)) (1-t*v) b) i j s t (-v) u0 a=bl (fun a=>bl (fun b=>z.s a b) i j 1 1 (-(t*v)) (1-t*v) b) i j s t (-v) u0 a:=by
   unfold bl at*;dsimp only at*;rw[e2 i hiR,e2 j hjR,e2 a ha]
  rw[hout];have zij:z.s i j=0:=hd i hiR j hjC hne;have zji:z.s j i=0:=hd j hjR i hiC hji;unfold bl;dsimp only;by_cases a1:a=i
  ·subst a1
   by_cases b1:b=a
   ·subst b1
    rw[if_neg oM,if_pos ⟨rfl,rfl⟩,if_pos rfl,if_pos rfl,if_pos rfl,zij,zji,<-hb];grind
   by_cases b2:b=j
   ·subst b2
    rw[if_neg oM,if_neg oM,if_pos rfl,if_neg hji,if_neg hji,if_pos rfl,if_pos rfl,zji,zij];have:s*(-(t*v)*z.s a a+(1-t*v)*0)+t*(-(t*v)*0+(1-t*v)*z.s b b)=-(t*v)*(s*z.s a a+t*z.s b b)+t*z.s b b:=by grind
    rw[this,hb,hv];grind
   have h1:z.s a b=0:=hd a ha b hb' (fun e=>b1 e.symm);have h2:z.s j b=0:=hd j hjR b hb' (fun e=>b2 e.symm);rw[if_neg oM,if_neg oM,if_pos rfl,if_neg b1,if_neg b2,if_neg b1,if_neg b2,h1,h2];omega
  by_cases a2:a=j
  ·subst a2
   by_cases b1:b=i
   ·subst b1
    rw[if_neg oM,if_neg oM,if_neg a1,if_pos rfl,if_pos rfl,if_pos rfl,zij,zji];have:-v*(1*z.s b b+1*0)+u0*(1*0+1*z.s a a)=u0*z.s a a-v*z.s b b:=by grind
    rw[this,hu0,hv];grind
   by_cases b2:b=a
   ·subst b2
    rw[if_pos ⟨rfl,rfl⟩,if_neg a1,if_pos rfl,if_neg b1,if_neg b1,if_pos rfl,if_pos rfl,zij,zji];have:-v*(-(t*v)*z.s i i+(1-t*v)*0)+u0*(-(t*v)*0+(1-t*v)*z.s b b)=t*v*v*z.s i i+(1-t*v)*u0*z.s b b:=by grind
    rw[this,hu0,hv];grind
   have h1:z.s i b=0:=hd i hiR b hb' (fun e=>b1 e.symm);have h2:z.s a b=0:=hd a ha b hb' (fun e=>b2 e.symm);rw[if_neg oM,if_neg oM,if_neg a1,if_pos rfl,if_neg b1,if_neg b2,if_neg b1,if_neg b2,h1,h2];omega
  rw[if_neg oM,if_neg oM,if_neg a1,if_neg a2];by_cases b1:b=i
  ·subst b1
   rw[if_pos rfl,hd a ha b hb' a1,hd a ha j hjC a2];omega
  by_cases b2:b=j
  ·subst b2
   rw[if_neg b1,if_pos rfl,hd a ha b hb' a2,hd a ha i hiC a1];omega
  rw[if_neg b1,if_neg b2]
 ·show ∀a,a<R->∀b,b<R->dot R (jE z.u i j s t (-(z.s j j/_)) (z.s i i/_)) (jE z.v i j (z.s i i/_) (z.s j j/_) (-t) s) a b=idf a b
  rw[hgg,q1,q2];exact zML hiR hjR hne h.uv hstuv (by grind) (by grind) (by grind)
 ·show cod R (jE z.v i j (z.s i i/_) (z.s j j/_) (-t) s) (jE z.u i j s t (-(z.s j j/_)) (z.s i i/_)) a b=idf a b
  rw[hgg,q1,q2,zMK hiR hjR hne (by grind) (by grind) (by grind) (by grind)];exact h.vu a ha b hb'
 ·show ∀a,a<C->∀b,b<C->dot C (jE z.w i j 1 1 (-(t*(z.s j j/_))) (1-t*(z.s j j/_))) (jE z.x i j (1-t*(z.s j j/_)) (t*(z.s j j/_)) (-1) 1) a b=idf a b
  rw[hgg,q2];exact zML hiC hjC hne h.wx (by grind) (by grind) (by grind) (by grind)
 show cod C (jE z.x i j (1-t*(z.s j j/_)) (t*(z.s j j/_)) (-1) 1) (jE z.w i j 1 1 (-(t*(z.s j j/_))) (1-t*(z.s j j/_))) a b=idf a b;rw[hgg,q2,zMK hiC hjC hne (by grind) (by grind) (by grind) (by grind)];exact h.xw a ha b hb'
structure Dg(R C r:Nat)(F:Nat->Nat->Int):Prop where
 off:zGl R C F
 pos:∀i,i<r->0<F i i
 zero:∀i,r<=i->i<min R C->F i i=0
 le:r<=min R C
theorem Low.dg(h:Low R C r F)(hd:zGl R C F):Dg R C r F:=
 ⟨hd,fun i hi=>h.hnf.ech.pos i hi,fun i h1 h2=>h.row i h1 oM i oM,by have:=h.le;have:=h.hnf.le;omega⟩
theorem Dg.both(h:Dg R C r F)(hij:i<j)(hj:j<min R C)(hn:¬ F i i∣F j j):j<r/\0<F i i/\0<F j j:=by
 have hjr:j<r:=by
  rcases zG j r with h1|h1
  exact h1;rw[h.zero j h1 hj]at hn;exact absurd (zBr _) hn
 exact⟨hjr,h.pos i oM,h.pos j hjr⟩
theorem zLP(hij:i<j):zIr F i j i i=((Int.gcd (F i i) (F j j):Nat):Int):=by
 unfold zIr;rw[if_neg oM,if_pos ⟨rfl,rfl⟩]
theorem zLQ:zIr F i j j j=F i i*(F j j/((Int.gcd (F i i) (F j j):Nat):Int)):=by
 unfold zIr;rw[if_pos ⟨rfl,rfl⟩]
theorem zHG{a:Nat}(h1:¬ (a=j/\b=j))(h2:¬ (a=i/\b=i)):zIr F i j a b=F a b:=by
 unfold zIr;rw[if_neg h1,if_neg h2]
theorem zJY{x:Int}(hx:0<x)(hy:0<y):∃g u v:Int,((Int.gcd x y:Nat):Int)=g/\0<g/\x=g*u/\y=g*v/\0<u/\0<v/\x/g=u/\y/g=v:=by
 obtain⟨u,hu⟩:(((Int.gcd x y:Nat):Int))∣x:=zBW ..;obtain⟨v,hv⟩:(((Int.gcd x y:Nat):Int))∣y:=zB9 ..;have h0:0<((Int.gcd x y:Nat):Int):=by
  have:Int.gcd x y≠0:=fun h=>by rw[zBv]at h;omega
  omega
 generalize hg:((Int.gcd x y:Nat):Int)=g at*;have hu0:0<u:=by
  rcases zCo 0 u with h|h
  exact h;have:=zAw (zBa h0) h;omega
 have hv0:0<v:=by
  rcases zCo 0 v with h|h
  exact h;have:=zAw (zBa h0) h;omega
 exact⟨g,u,v,rfl,h0,hu,hv,hu0,hv0,by rw[hu];exact zBL _ oM,by rw[hv];exact zBL _ oM⟩
theorem Dg.step(h:Dg R C r F)(hij:i<j)(hj:j<min R C)(hn:¬ F i i∣F j j):Dg R C r (zIr F i j):=by
 obtain⟨h1,h2,h3⟩:=h.both hij hj hn;obtain⟨g,u,v,e1,e2,e3,e4,e5,e6,e7,e8⟩:=zJY h2 h3;refine⟨fun a ha b hb hab=>?_,fun k hk=>?_,fun k h4 h5=>?_,h.le⟩;rw[zHG oM oM];exact h.off a ha b hb hab
 ·by_cases k1:k=i
  ·rw[k1,zLP hij,e1];exact e2
  by_cases k2:k=j
  ·rw[k2,zLQ,e1,e8];exact Int.mul_pos h2 e6
  rw[zHG oM oM];exact h.pos k hk
 rw[zHG oM oM];exact h.zero k h4 h5
theorem zSB{r:Nat}(hij:i<j)(h2:0<F i i)(h3:0<F j j):∃u:Int,F i i=((Int.gcd (F i i) (F j j):Nat):Int)*u/\0<u∧
  ∀m,jB m (fun k=>zIr F i j k k)*(if i<m/\m<=j then u else 1)=jB m (fun k=>F k k):=by
 obtain⟨g,u,v,e1,e2,e3,e4,e5,e6,e7,e8⟩:=zJY h2 h3;refine⟨u,by rw[e1];exact e3,e5,fun m=>?_⟩;induction m with
 |zero=>rw[if_neg oM];rfl
 | succ m ih=>
  show jB m (fun k=>zIr F i j k k)*zIr F i j m m*_=jB m (fun k=>F k k)*F m m;by_cases k1:m=i
  ·subst k1
   rw[if_neg oM,zAT]at ih;rw[zLP hij,e1,if_pos oM,ih,qK,<-e3]
  by_cases k2:m=j
  ·subst k2
   rw[if_pos oM]at ih;rw[zLQ,e1,e8,if_neg oM,zAT,<-ih,e3];have:F m m=g*v:=e4;rw[this];grind
  rw[zHG oM oM,<-ih];by_cases k3:i<m/\m<=j
  ·rw[if_pos k3,if_pos oM]
   grind
  rw[if_neg k3,if_neg oM];grind
theorem zWt(h:Dg R C r F)(hij:i<j)(hj:j<min R C)(hn:¬ F i i∣F j j):2*mu r (zIr F i j)<=mu r F/\jB r (fun k=>zIr F i j k k)=jB r (fun k=>F k k):=by
 obtain⟨h1,h2,h3⟩:=h.both hij hj hn;have hs:=h.step hij hj hn;obtain⟨u,e1,e2,e3⟩:=zSB (r:=r) hij h2 h3;have hdv:∀m,jB m (fun k=>zIr F i j k k)∣jB m (fun k=>F k k):=fun m=>⟨_,(e3 m).symm⟩
 refine⟨zJc (zAI fun a ha=>zAI fun b hb=>hs.pos b oM) (zAI fun a ha=>zAI fun b hb=>h.pos b oM) (zHq fun a ha=>hdv _) (fun he=>?_),?_⟩
 ·have g1:=zGD (fun a ha=>zAI fun b hb=>hs.pos b oM) (fun a ha=>zAI fun b hb=>h.pos b oM) (fun a ha=>hdv (a+1)) he i oM
  have g2:=e3 (i+1);rw[if_pos oM,<-g1]at g2;have g3:0<jB (i+1) (fun k=>zIr F i j k k):=zAI fun b hb=>hs.pos b oM
  have g4:u=1:=zAW (a:=jB (i+1) fun k=>zIr F i j k k) oM (by rw[g2,zAT]);rw[g4,zAT]at e1;exact hn (by rw[e1];exact zB9 ..)
 have:=e3 r;rwa[if_neg oM,zAT]at this
theorem zCa{x:Int}{X Y:Nat}(hx:x.natAbs<=X)(hy:y.natAbs<=Y):(x*y).natAbs<=X*Y:=by
 rw[qV];exact qO hx hy
theorem zHf(h:leM M n C F)(hi:i<n)(hj:j<n)(hK:1<=K)(h0:m0.natAbs<=K)(h1:m1.natAbs<=K)(h2:m2.natAbs<=K)(h3:m3.natAbs<=K):
  leM (M*(2*K)) n C (jE F i j m0 m1 m2 m3):=by
 intro a ha b hb;have e:M*(2*K)=K*M+K*M:=by rw[zN,zC];omega
 have q1:=zCa h0 (h i hi b hb);have q2:=zCa h1 (h j hj b hb);have q3:=zCa h2 (h i hi b hb);have q4:=zCa h3 (h j hj b hb);have q5:=h a ha b hb;have q6:M<=K*M:=qQ _ hK;unfold jE;split;omega;split<;>omega
theorem zLr(h:leM M n C F)(hi:i<n)(hj:j<n)(hK:1<=K)(hM:1<=M)(hB:M*(2*K)<B)(h0:m0.natAbs<=K)(h1:m1.natAbs<=K)(h2:m2.natAbs<=K)(h3:m3.natAbs<=K):zVJ B C F i j m0 m1 m2 m3:=by
 have e:M*(2*K)=K*M+K*M:=by rw[zN,zC];omega
 have q6:M<=K*M:=qQ _ hK;have q7:K<=K*M:=zO _ hM;refine⟨oM,oM,oM,oM,fun t ht=>?_⟩;have g1:=h i hi t ht;have g2:=h j hj t ht;have q1:=zCa h0 g1;have q2:=zCa h1 g2;have q3:=zCa h2 g1;have q4:=zCa h3 g2;exact⟨oM,oM,oM,oM,oM,oM⟩
structure zZG(M T R C Cu Cw r e:Nat)(y0 y:W5):Prop where
 dg:Dg R C r y.s
 muh:mu r y.s*2^e<=mu r y0.s
 prod:jB r (fun k=>y.s k k)=jB r (fun k=>y0.s k k)
 u:leM (M*(4*T*T)^e) R Cu y.u
 v:leM (M*(4*T*T)^e) R Cu y.v
 w:leM (M*(4*T*T)^e) C Cw y.w
 x:leM (M*(4*T*T)^e) C Cw y.x
theorem Dg.small(h:Dg R C r F)(hT:(jB r (fun k=>F k k)).natAbs<=T):leM T R C F:=by
 intro a ha b hb;by_cases e:a=b
 ·subst e
  rcases zG a r with h1|h1
  ·have h2:=zOY h.pos h1
   have h3:=h.pos a h1;omega
  rw[h.zero a h1 oM];omega
 rw[h.off a ha b hb e];omega
theorem zPB{x u v t:Int}(hx:0<x)(hy:0<y)(hxT:x.natAbs<=T)(hyT:y.natAbs<=T)(hg:g=((Int.gcd x y:Nat):Int))(hu:u=x/g)(hv:v=y/g)(hb:Bez x y s t):
  s.natAbs<=2*T*T/\t.natAbs<=2*T*T/\u.natAbs<=2*T*T/\v.natAbs<=2*T*T/\(t*v).natAbs<=2*T*T/\(1-t*v).natAbs<=2*T*T/\(x*v).natAbs<=T*T:=by
 obtain⟨g',u',v',e1,e2,e3,e4,e5,e6,e7,e8⟩:=zJY hx hy;obtain rfl:g=g':=by rw[hg];exact e1
 obtain rfl:u=u':=by rw[hu];exact e7
 obtain rfl:v=v':=by rw[hv];exact e8
 obtain⟨-,b1,b2⟩:=hb;have hT1:1<=T:=oM;have hTT:T<=T*T:=qQ _ hT1;have h2:2*T*T=T*T+T*T:=by rw[zC];omega
 have gu:u<=x:=by rw[e3];have:1*u<=g*u:=yM oM oM;omega
 have gv:v<=y:=by rw[e4];have:1*v<=g*v:=yM oM oM;omega
 have q1:(t*v).natAbs<=T*T:=zCa oM oM;have q2:(x*v).natAbs<=T*T:=zCa hxT oM;refine⟨oM,oM,oM,oM,oM,oM,q2⟩
theorem zSD{y0:W5}(hT:(jB r (fun k=>y0.s k k)).natAbs<=T)(hT1:1<=T)(h0:Dg R C r y0.s)(hu:leM M R Cu y0.u)(hv:leM M R Cu y0.v)(hw:leM M C Cw y0.w)(hx:leM M C Cw y0.x){y:W5}(h:zNc (min R C) y0 y):∃e,zZG M T R C Cu Cw r e y0 y:=by
 induction h with
 |refl=>exact⟨0,h0,by simp,rfl,by simpa using hu,by simpa using hv,by simpa using hw,by simpa using hx⟩
 | step y i j s t hr hij hj hn hb ih=>
  obtain⟨e,hI⟩:=ih;obtain⟨b1,b2,b3⟩:=hI.dg.both hij hj hn;have hsm:=hI.dg.small (T:=T) (by rw[hI.prod];exact hT);obtain⟨c1,c2,c3,c4,c5,c6,c7⟩:=zPB b2 b3 (hsm i oM i oM) (hsm j oM j oM) rfl rfl rfl hb;have hK:1<=2*T*T:=yC oM hT1;have hpe:M*(4*T*T)^e*(2*(2*T*T))=M*(4*T*T)^(e+1):=by
   rw[qI,zC];congr 2;rw[<-zC,<-zC]
  obtain⟨m1,m2⟩:=zWt hI.dg hij hj hn;refine⟨e+1,hI.dg.step hij hj hn,?_,m2.trans hI.prod,?_,?_,?_,?_⟩
  ·refine Int.le_trans ?_ hI.muh
   have h2:(0:Int)<=2^e:=Int.pow_nonneg oM;have h3:(2:Int)^(e+1)=2*2^e:=by rw[Int.pow_succ,qH]
   show mu r (zIr y.s i j)*2^(e+1)<=_;rw[h3,<-qK];refine yM ?_ h2;omega
  ·have:=zHf (K:=2*T*T) hI.u (show i<R by omega) (show j<R by omega) hK c1 c2 (by rw[zR];exact c4) c3
   rwa[hpe]at this
  ·have:=zHf (K:=2*T*T) hI.v (show i<R by omega) (show j<R by omega) hK c3 c4 (m2:=-t) (by rw[zR];exact c2) c1
   rwa[hpe]at this
  ·have:=zHf (K:=2*T*T) (m0:=1) (m1:=1) hI.w (show i<C by omega) (show j<C by omega) hK hK hK (by rw[zR];exact c5) c6
   rwa[hpe]at this
  have:=zHf (K:=2*T*T) (m2:=-1) (m3:=1) hI.x (show i<C by omega) (show j<C by omega) hK c6 c5 (by rw[zR];exact hK) hK;rwa[hpe]at this
theorem zZG.few{y0 y:W5}(h:zZG M T R C Cu Cw r e y0 y)(hN:mu r y0.s<2^N):e<N:=by
 have h1:=h.muh;have h2:0<mu r y.s:=zAI fun a ha=>zAI fun b hb=>h.dg.pos b oM
 have h3:(0:Int)<=2^e:=Int.pow_nonneg oM;have h4:1*(2:Int)^e<=mu r y.s*2^e:=yM oM h3;refine zCT fun h5=>?_
 have h6:(2:Nat)^N<=2^e:=zDM oM h5;have e1:((2^N:Nat):Int)=(2:Int)^N:=by rw[zCh];rfl
 have e2:((2^e:Nat):Int)=(2:Int)^e:=by rw[zCh];rfl
 omega
theorem zWv{B:Nat}{y0:W5}(hT:(jB r (fun k=>y0.s k k)).natAbs<=T)(hT1:1<=T)(hM1:1<=M)(h0:Dg R C r y0.s)(hu:leM M R Cu y0.u)(hv:leM M R Cu y0.v)(hw:leM M C Cw y0.w)(hx:leM M C Cw y0.x)(hN:mu r y0.s<2^N)
  (hB:M*(4*T*T)^(N+1)<B) {y:W5} (h:zNc (min R C) y0 y):
  okW B R C Cu Cw y/\∀i j,i<j->j<min R C->¬ y.s i i∣y.s j j->zRb B C Cu Cw y i j:=by
 obtain⟨e,hI⟩:=zSD hT hT1 h0 hu hv hw hx h;have he:=hI.few hN;have hQ:1<=4*T*T:=yC oM hT1;have hMe:M*(4*T*T)^e*(4*T*T)<=M*(4*T*T)^(N+1):=by
  rw[zC,<-qI];exact zH _ (zDM hQ oM)
 have hMB:=zK hMe hB;have hM1':1<=M*(4*T*T)^e:=yC hM1 (qR oM);have hsm:=hI.dg.small (T:=T) (by rw[hI.prod];exact hT);have gu:=hI.u;have gv:=hI.v;have gw:=hI.w;have gx:=hI.x;have hdg:=hI.dg;clear hMe hB hI hN hu hv hw hx he;generalize M*(4*T*T)^e=M' at hMB hM1' gu gv gw gx;have hTT:T<=T*T:=qQ _ hT1;have h4Q:4*T*T=2*(2*T*T):=by rw[<-zC,<-zC]
 have h2Q:2*T*T=2*(T*T):=zC _ _ _;rw[h4Q,h2Q]at hMB;have hM0:M'<=M'*(2*(2*(T*T))):=zO _ oM;have hQ2:2*(2*(T*T))<=M'*(2*(2*(T*T))):=qQ _ hM1';refine⟨⟨hsm.ok oM,gu.ok oM,gv.ok oM,gw.ok oM,gx.ok oM⟩,fun i j hij hj hn=>?_⟩;obtain⟨b1,b2,b3⟩:=hdg.both hij hj hn;have s1:=hsm i oM i oM;have s2:=hsm j oM j oM;refine⟨⟨oM,oM⟩,fun h=>by rw[zBv]at h;omega,fun g u v s t hg hu' hv' hb=>?_⟩;obtain⟨c1,c2,c3,c4,c5,c6,c7⟩:=zPB b2 b3 s1 s2 hg hu' hv' hb;rw[h2Q]at c1 c2 c3 c4 c5 c6;have hK:1<=2*(T*T):=oM;have n1:∀z:Int,z.natAbs<=2*(T*T)->(-z).natAbs<=2*(T*T):=fun z h=>by rw[zR];exact h
 have k1:(1:Int).natAbs<=2*(T*T):=hK;have q1:T*T<B:=oM;have q2:2*(T*T)<B:=oM;have iR:i<R:=oM;have jR:j<R:=oM;have iC:i<C:=oM;have jC:j<C:=oM;clear hu' hv' hb hg;refine⟨zK c7 q1,zK c5 q2,?_,?_,?_,?_⟩;exact zLr gu iR jR hK hM1' hMB c1 c2 (n1 _ c4) c3;exact zLr gv iR jR hK hM1' hMB c3 c4 (n1 _ c2) c1;exact zLr gw iC jC hK hM1' hMB k1 k1 (n1 _ c5) c6;exact zLr gx iC jC hK hM1' hMB c6 c5 (n1 _ k1) k1
def Chn(i n:Nat)(F:Nat->Nat->Int):Prop:=∀a b,i<=a->a<b->b<n->F a a∣F b b
theorem zUg(hij:i<j)(hik:k<=i)(hjn:j<n)(h:∀a,k<=a->a<n->d∣F a a):∀a,k<=a->a<n->d∣zIr F i j a a:=by
 intro a h1 h2;by_cases e1:a=j
 ·rw[e1,zLQ];exact Int.dvd_mul_of_dvd_left (h i oM oM)
 by_cases e2:a=i
 ·rw[e2,zLP hij];exact Int.dvd_coe_gcd (h i hik oM) (h j oM hjn)
 rw[zHG oM oM];exact h a h1 h2
theorem zUe(hik:k<=i):∀(m j:Nat) (F:Nat->Nat->Int),i<j->j+m<=n->(∀a,k<=a->a<n->d∣F a a)->∀a,k<=a->a<n->d∣divJ i m j F a a:=by
 intro m;induction m with
 |zero=>intro j F _ _ h;exact h
 |succ m ih=>
  intro j F h1 h2 h;unfold divJ;refine ih (j+1) _ oM oM ?_;split;exact h;exact zUg h1 hik oM h
theorem zQF:∀(m j:Nat) (F:Nat->Nat->Int),i<j->j+m<=n->(∀l,i<l->l<j->F i i∣F l l)->∀l,i<l->l<j+m->divJ i m j F i i∣divJ i m j F l l:=by
 intro m;induction m with
 |zero=>intro j F _ _ h;exact h
 | succ m ih=>
  intro j F h1 h2 h l h3 h4;unfold divJ;refine ih (j+1) _ oM oM ?_ l h3 oM;intro l h3 h4;split
  ·rename_i hd
   by_cases e:l=j
   ·rw[e];exact hd
   exact h l h3 oM
  rw[zLP h1];by_cases e:l=j
  ·rw[e,zLQ];exact Int.dvd_mul_of_dvd_left (zBW ..)
  rw[zHG oM oM];exact zEC (zBW ..) (h l h3 oM)
theorem zUf:∀(m j:Nat) (F:Nat->Nat->Int),i<j->∀a b,a<i->divJ i m j F a b=F a b:=by
 intro m;induction m with
 |zero=>intro j F _ a b _;rfl
 |succ m ih=>
  intro j F h1 a b h;unfold divJ;rw[ih (j+1) _ oM a b h];split;rfl;exact zHG oM oM
theorem zUd:∀(m i:Nat) (F:Nat->Nat->Int),∀a b,a<i->divI m i F a b=F a b:=by
 intro m;induction m with
 |zero=>intro i F a b _;rfl
 |succ m ih=>
  intro i F a b h;unfold divI;rw[ih (i+1) _ a b oM,zUf m (i+1) F oM a b h]
theorem zUc:∀(m i:Nat) (F:Nat->Nat->Int),i+m=n->k<=i->(∀a,k<=a->a<n->d∣F a a)->∀a,k<=a->a<n->d∣divI m i F a a:=by
 intro m;induction m with
 |zero=>intro i F _ _ h;exact h
 |succ m ih=>
  intro i F h1 h2 h;unfold divI;exact ih (i+1) _ oM oM (zUe h2 m (i+1) F oM oM h)
theorem zQE:∀(m i:Nat) (F:Nat->Nat->Int),i+m=n->Chn i n (divI m i F):=by
 intro m;induction m with
 |zero=>intro i F h a b h1 h2 h3;omega
 | succ m ih=>
  intro i F h a b h1 h2 h3;unfold divI;by_cases e:a=i
  ·subst e
   rw[zUd m (a+1) _ a a oM];refine zUc (n:=n) (k:=a+1) m (a+1) _ oM (xgf _) (fun c h4 h5=>?_) b oM h3;exact zQF (n:=n) m (a+1) F oM oM (fun l h6 h7=>by omega) c oM oM
  exact ih (i+1) _ oM a b oM h2 h3
def zP3(R C r:Nat)(A F:Nat->Nat->Int):Prop:=Dg R C r F/\∃u v w x,Rel R C A ⟨F,u,v,w,x⟩
theorem zP3.step(h:zP3 R C r A F)(hij:i<j)(hj:j<min R C)(hn:¬ F i i∣F j j):zP3 R C r A (zIr F i j):=by
 obtain⟨hd,u,v,w,x,hr⟩:=h;obtain⟨b1,b2,b3⟩:=hd.both hij hj hn;obtain⟨s,t,e⟩:=qAR (x:=F i i) (y:=F j j) oM oM;have:=zUh hr hd.off hij hj (fun h=>by dsimp only at h;rw[zBv]at h;omega) e;exact⟨hd.step hij hj hn,_,_,_,_,this⟩
theorem zP3.divJ:∀(m j:Nat) (F:Nat->Nat->Int),i<j->j+m<=min R C->zP3 R C r A F->zP3 R C r A (divJ i m j F):=by
 intro m;induction m with
 |zero=>intro j F _ _ h;exact h
 |succ m ih=>
  intro j F h1 h2 h;unfold Go.Proofs.YtkidaebmhlijlaaGreat.divJ;refine ih (j+1) _ oM oM ?_;split;exact h;rename_i hn;exact h.step h1 oM hn
theorem zP3.divI:∀(m i:Nat) (F:Nat->Nat->Int),i+m<=min R C->zP3 R C r A F->zP3 R C r A (divI m i F):=by
 intro m;induction m with
 |zero=>intro i F _ h;exact h
 |succ m ih=>
  intro i F h1 h;unfold Go.Proofs.YtkidaebmhlijlaaGreat.divI;exact ih (i+1) _ oM (zP3.divJ m (i+1) F oM oM h)
def zUO(R C k:Nat)(A:Nat->Nat->Int)(g:Int):Prop:=∀σ τ:Nat->Nat,(∀a,a<k->σ a<R)->(∀a,a<k->τ a<C)->g∣det k fun a b=>A (σ a) (τ b)
def Fac(R C:Nat)(F G:Nat->Nat->Int):Prop:=∃P Q:Nat->Nat->Int,∀a,a<R->∀b,b<C->G a b=zT R fun s=>P a s*zT C fun t=>F s t*Q t b
theorem zUO.fac(h:zUO R C k F g)(hf:Fac R C F G):zUO R C k G g:=by
 obtain⟨P,Q,e⟩:=hf;intro σ τ hσ hτ;rw[zAe (G:=fun a b=>zT R fun s=>P (σ a) s*zT C fun t=>F s t*Q t (τ b)) fun a ha b hb=>e _ (hσ a ha) _ (hτ b hb)];exact zFy (P:=fun a s=>P (σ a) s) (Q:=fun t b=>Q t (τ b)) h
theorem Rel.facTo{z:W5}(h:Rel R C A z):Fac R C A z.s:=⟨z.u,fun t b=>z.w b t,h.s⟩
theorem Rel.facFrom{z:W5}(h:Rel R C A z):Fac R C z.s A:=⟨fun a s=>z.v s a,fun t b=>z.x t b,h.back⟩
theorem zU8{P:Nat->Prop}:∀f,P f->∃f,P f/\∀g,P g->f<=g:=by
 intro f;induction f using Nat.strongRecOn with
 | ind f ih=>
  intro hf;by_cases h:∃g,g<f/\P g
  ·obtain⟨g,h1,h2⟩:=h
   exact ih g h1 h2
  exact⟨f,hf,fun g hg=>zAD fun hlt=>h ⟨g,hlt,hg⟩⟩
theorem Dg.minors(h:Dg R C r F)(hc:Chn 0 (min R C) F)(hk:k<=min R C):zUO R C k F (jB k fun i=>F i i):=by
 refine fun σ τ hσ hτ=>zF2 (R:=R) (C:=C) (fun σ τ hσ hτ hi hj=>?_) σ τ hσ hτ
 by_cases he:∀a,a<k->σ a=τ a
 ·rw[zD6 fun a ha b hb hab=>?_]
  ·refine zHq fun i hik=>?_
   rw[<-he i hik];have h1:=hi.le i hik;have h2:=hσ i hik;have h3:=hτ i hik;rw[<-he i hik]at h3;rcases zG i (σ i)with h4|h4
   exact hc i (σ i) (zE _) h4 oM;rw[show σ i=i by omega];exact zAM _
  refine h.off _ (hσ a ha) _ (hτ b hb) ?_;rw[<-he b hb];have:=hi.lt a b hab hb;omega
 -- the first place where they differ
 have hex:∃a,(a<k/\σ a≠τ a)/\∀b,b<a->b<k->σ b=τ b:=by
  obtain⟨a,ha⟩:=Classical.not_forall.1 he;obtain⟨ha1,ha2⟩:=Classical.not_imp.1 ha;obtain⟨m,hm1,hm2⟩:=zU8 (P:=fun a=>a<k/\σ a≠τ a) a ⟨ha1,ha2⟩;exact⟨m,hm1,fun b hb hbk=>zL fun hne=>by
   have:=hm2 b ⟨hbk,hne⟩;omega⟩
 obtain⟨a,⟨ha,hne⟩,hbef⟩:=hex;rcases zG (σ a) (τ a)with h1|h1
 ·rw[zCN ha fun b hb=>?_]
  ·exact zBr _
  refine h.off _ (hσ a ha) _ (hτ b hb) fun e=>?_
  rcases yK b a with h2|h2|h2
  ·have:=hi.lt b a h2 ha
   rw[hbef b h2 hb]at this;omega
  subst h2;omega;have:=hj.lt a b h2 hb;omega
 rw[zIa (c:=a) ha fun b hb=>?_];exact zBr _;refine h.off _ (hσ b hb) _ (hτ a ha) fun e=>?_
 rcases yK b a with h2|h2|h2
 ·have:=hj.lt b a h2 ha
  rw[<-hbef b h2 hb]at this;omega
 subst h2;omega;have:=hi.lt a b h2 hb;omega
theorem Dg.gen(h:Dg R C r F)(hk:k<=min R C)(hm:zUO R C k F g):g∣jB k fun i=>F i i:=by
 have:=hm (fun a=>a) (fun a=>a) (fun a ha=>by omega) (fun a ha=>by omega);rwa[zD6 fun a ha b hb hab=>h.off a oM b oM oM]at this
structure Inv(R C r:Nat)(A F:Nat->Nat->Int):Prop where
 dg:Dg R C r F
 chn:Chn 0 (min R C) F
 fwd:Fac R C A F
 bwd:Fac R C F A
theorem Inv.minors(h:Inv R C r A F)(hk:k<=min R C):zUO R C k A (jB k fun i=>F i i):=(h.dg.minors h.chn hk).fac h.bwd
theorem Inv.gen(h:Inv R C r A F)(hk:k<=min R C)(hm:zUO R C k A g):g∣jB k fun i=>F i i:=h.dg.gen hk (hm.fac h.fwd)
theorem Dg.nonneg(h:Dg R C r F)(hi:i<min R C):0<=F i i:=by
 rcases zG i r with h1|h1
 have:=h.pos i h1;omega;rw[h.zero i h1 hi];exact zDy _
theorem zM1(h:∀i,i<n->0<=f i):0<=jB n f:=by
 induction n with
 |zero=>exact zBa Int.one_pos
 |succ n ih=>exact Int.mul_nonneg (ih fun i hi=>h i oM) (h n oM)
theorem Dg.prod_nonneg(h:Dg R C r F)(hk:k<=min R C):0<=jB k fun i=>F i i:=zM1 fun i hi=>h.nonneg oM
theorem zZO(hF:Dg R C r F)(hG:Dg R C r' G)(h:∀k,k<=min R C->jB k (fun i=>F i i)=jB k (fun i=>G i i)):r=r'/\∀i,i<min R C->F i i=G i i:=by
 have hrr:∀{r r':Nat} {F G:Nat->Nat->Int},Dg R C r F->Dg R C r' G->(∀k,k<=min R C->jB k (fun i=>F i i)=jB k (fun i=>G i i))->r<=r':=fun {r r' F G} hF hG h=>by
  refine zAD fun hlt=>?_
  have h1:=h (r'+1) (by have:=hF.le;omega);have h2:0<jB (r'+1) (fun i=>F i i):=zAI fun i hi=>hF.pos i oM
  rw[h1,zK0 (f:=fun i=>G i i) (c:=r') oM (hG.zero r' (xgf _) (by have:=hF.le;omega))]at h2;omega
 have e:r=r':=zB1 (hrr hF hG h) (hrr hG hF fun k hk=>(h k hk).symm);subst e;refine⟨rfl,fun i hi=>?_⟩;rcases zG i r with h1|h1
 exact zHZ (r:=r) (fun i hi=>hG.pos i hi) (fun j hj=>h j (by have:=hF.le;omega)) i h1;rw[hF.zero i h1 hi,hG.zero i h1 hi]
theorem Inv.unique{B:Nat->Nat->Int}(hF:Inv R C r A F)(hG:Inv R C r' B G)(h:∀k,k<=min R C->∀g,zUO R C k A g↔zUO R C k B g):r=r'/\∀i,i<min R C->F i i=G i i:=
 zZO hF.dg hG.dg fun k hk=>zDG (hF.dg.prod_nonneg hk) (hG.dg.prod_nonneg hk) (hG.gen hk ((h k hk _).1 (hF.minors hk))) (hF.gen hk ((h k hk _).2 (hG.minors hk)))
theorem Inv.unique_fac{B:Nat->Nat->Int}(hF:Inv R C r A F)(hG:Inv R C r' B G)(h1:Fac R C A B)(h2:Fac R C B A):r=r'/\∀i,i<min R C->F i i=G i i:=
 hF.unique hG fun k _ g=>⟨fun h=>h.fac h1,fun h=>h.fac h2⟩
theorem Inv.of_relS(h:zP3 R C r A F)(hc:Chn 0 (min R C) F):Inv R C r A F:=by
 obtain⟨hd,u,v,w,x,hr⟩:=h;exact⟨hd,hc,hr.facTo,hr.facFrom⟩
theorem zX9:∃n:Nat,n=8796093022208:=⟨_,rfl⟩
noncomputable def EB:Nat:=zX9.choose
theorem zX8:EB=8796093022208:=zX9.choose_spec
noncomputable def BB:Nat:=2^EB
theorem zYH:∃n:Nat,n=2^120:=⟨_,rfl⟩
noncomputable def SW:Nat:=zYH.choose
theorem zNh:SW=2^120:=zYH.choose_spec
theorem zGr:1<=SW:=by rw[zNh];decide+kernel
theorem zXV{E:Nat}(hT:2*T=2^t)(he:e=120+(t*K+t*K)*(N+2)+(t+t)*(N+1))(hE:e<E):SW*(((2*T)^K*(2*T)^K)^(N+2))*(4*T*T)^(N+1)<2^E:=by
 have hQ:4*T*T=2^(t+t):=by rw[yD,<-hT,Nat.mul_mul_mul_comm,zC]
 rw[hQ,hT,zNh,<-jO,<-jO,<-yD,<-jO,<-yD,<-yD,<-he];exact Nat.pow_lt_pow_right oM hE
theorem zXd(hT:T=2^t)(ht:t=497)(hN:N=1939):SW*((GE T*GE T)^(N+2))*(4*T*T)^(N+1)<BB:=by
 refine zXV (T:=T) (N:=N) (K:=KE) (E:=EB) (t:=t+1) (e:=120+((t+1)*KE+(t+1)*KE)*(N+2)+((t+1)+(t+1))*(N+1)) ?_ rfl ?_;rw[hT,zN];exact(qI 2 t).symm;rw[hN,zX8,ht];unfold KE;omega
theorem zTv{z:W5}(hR:R<=4)(hC:C<=4)(hs:leM SW R C z.s)(hu:leM 1 R Cu z.u)(hv:leM 1 R Cu z.v)(hw:leM 1 C Cw z.w)(hx:leM 1 C Cw z.x):
  ∃f rr L r,zIO BB R C Cu Cw f rr z=some (rnds L z)/\okL R C L/\okW BB R C Cu Cw z/\Dg R C r (rnds L z).s/\∀y,zNc (min R C) (rnds L z) y->okW BB R C Cu Cw y/\∀i j,i<j->j<min R C->¬ y.s i i∣y.s j j->zRb BB C Cu Cw y i j:=by
 have hM:leW SW R C Cu Cw z:=⟨hs,hu.mono zGr,hv.mono zGr,hw.mono zGr,hx.mono zGr⟩;obtain⟨t,ht⟩:∃t:Nat,t=497:=⟨_,rfl⟩;obtain⟨T,hT0⟩:∃T:Nat,T=2^t:=⟨_,rfl⟩;obtain⟨N,hN0⟩:∃N:Nat,N=1939:=⟨_,rfl⟩;have hT:24*(8*SW)^4<=T:=by rw[hT0,ht,zNh];decide+kernel
 have hN:(24*SW^4)^4<2^N:=by rw[hN0,zNh];decide+kernel
 have hD:24*SW^4<=T:=by rw[hT0,ht,zNh];decide+kernel
 have hT1:1<=T:=by rw[hT0,ht];decide+kernel
 have hnum:=zXd hT0 ht hN0;clear hT0 hN0 ht;have hQ:1<=(4*T*T)^(N+1):=qR (yC oM hT1);have hB1:SW*((GE T*GE T)^(N+2))<BB:=zK (zO _ hQ) hnum;have hpos:1<=(GE T*GE T)^(N+2):=qR (yC (zJH hT1) (zJH hT1));obtain⟨f,rr,L,r,h1,h2,h3,h4,h5,h6⟩:=zVZ (h:=SW) hR hC zGr hs rfl hM zGr hT hN hB1;have hdg:=h4.dg h5;have hmu:mu r (rnds L z).s<2^N:=by
  have:=zYh (zB h4.le hR) h4 h6 (yC dE (qR zGr));have e:(((24*SW^4)^4:Nat):Int)<((2^N:Nat):Int):=Int.ofNat_lt.2 hN;have e2:((2^N:Nat):Int)=(2:Int)^N:=by rw[zCh];rfl
  exact Int.lt_of_le_of_lt this (e2 ▸ e)
 have hB2:1<BB:=zK (zB zGr (zO _ hpos)) hB1;refine⟨f,rr,L,r,h1,h2,⟨hs.ok (zK (zO _ hpos) hB1),hu.ok hB2,hv.ok hB2,hw.ok hB2,hx.ok hB2⟩,hdg,fun y hy=>?_⟩;exact zWv (zB h6 hD) hT1 (yC zGr hpos) hdg h3.u h3.v h3.w h3.x hmu hnum hy
def cor(R C:Nat)(x y:Int):Nat->Nat->Int:=fun a b=>if a=R-1/\b=0 then x else if a=0/\b=C-1 then y else 0
end Go.Proofs.YtkidaebmhlijlaaGreat
