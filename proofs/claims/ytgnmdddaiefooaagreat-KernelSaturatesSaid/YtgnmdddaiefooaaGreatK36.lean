/- Plain: lattices, their Hermite bases, kernels and saturations. Plain: ranks by minors; how large the Hermite bases of kernels and saturations are. Plain: saturations, primitive matrices, complements. -/
import Derived.Test.YtgnmdddaiefooaaGreatK17
import Derived.Test.YtgnmdddaiefooaaGreatK35
set_option linter.unusedVariables false
set_option linter.unusedSimpArgs false
set_option linter.unusedSectionVars false
set_option maxHeartbeats 16000000
set_option maxRecDepth 100000
namespace Go.Proofs.YtgnmdddaiefooaaGreat
open Go.RowKit
def zAE(m C:Nat)(A:Nat->Nat->Int)(x:Nat->Int):Prop:=∃y:Nat->Int,∀b,b<C->x b=zI m fun a=>y a*A a b
def zE3(R C:Nat)(A:Nat->Nat->Int)(x:Nat->Int):Prop:=∀b,b<C->(zI R fun a=>x a*A a b)=0
def zBp(R C:Nat)(A:Nat->Nat->Int)(x:Nat->Int):Prop:=∀y:Nat->Int,(∀a,a<R->(zI C fun b=>A a b*y b)=0)->(zI C fun b=>x b*y b)=0
structure HB(C m:Nat)(G:Nat->Nat->Int)(L:(Nat->Int)->Prop):Prop where
 hnf:∃c,Hnf C m m c G
 iff:∀x,L x↔zAE m C G x
theorem zAE.row{m C a:Nat}(A:Nat->Nat->Int)(ha:a<m):zAE m C A (A a):=
 ⟨fun t=>if t=a then 1 else 0,fun b _=>by rw[qW ha (fun i _ hne=>by dsimp only;rw[if_neg hne,Int.zero_mul])];dsimp only;rw[if_pos rfl,Int.one_mul]⟩
theorem zAE.sub{m m' C:Nat}{A G:Nat->Nat->Int}{x:Nat->Int}(h:∀a,a<m->zAE m' C G (A a))(hx:zAE m C A x):zAE m' C G x:=by
 obtain⟨y,hy⟩:=hx;have hY:∀a,∃Y:Nat->Int,a<m->∀b,b<C->A a b=zI m' fun t=>Y t*G t b:=fun a=>by
  by_cases ha:a<m
  ·obtain⟨Y,h⟩:=h a ha
   exact⟨Y,fun _=>h⟩
  ·exact⟨fun _=>0,fun h=>absurd h ha⟩
 refine⟨fun t=>zI m fun a=>y a*(hY a).choose t,fun b hb=>?_⟩;rw[hy b hb];have e:(zI m fun a=>y a*A a b)=zI m fun a=>zI m' fun t=>y a*(hY a).choose t*G t b:=zD fun a ha=>by
  rw[(hY a).choose_spec ha b hb,<-zV];exact zD fun t _=>by rw[Int.mul_assoc]
 rw[e,yB];exact zD fun t _=>jC _ _ _
theorem zAE.congr{m C:Nat}{A B:Nat->Nat->Int}(h:∀a,a<m->∀b,b<C->A a b=B a b)(x:Nat->Int):zAE m C A x↔zAE m C B x:=by
 constructor<;>(rintro⟨y,hy⟩;refine⟨y,fun b hb=>(hy b hb).trans (zD fun a ha=>by rw[h a ha b hb])⟩)
theorem zE3.congr{R C:Nat}{A B:Nat->Nat->Int}(h:∀a,a<R->∀b,b<C->A a b=B a b)(x:Nat->Int):zE3 R C A x↔zE3 R C B x:=by
 constructor<;>(intro hx b hb;rw[<-hx b hb];exact zD fun a ha=>by rw[h a ha b hb])
theorem zBp.congr{R C:Nat}{A B:Nat->Nat->Int}(h:∀a,a<R->∀b,b<C->A a b=B a b)(x:Nat->Int):zBp R C A x↔zBp R C B x:=by
 constructor<;>(intro hx y hy;refine hx y fun a ha=>?_;rw[<-hy a ha];exact zD fun b hb=>by rw[h a ha b hb])
def zLO(m:Nat)(G:Nat->Nat->Int):Nat->Nat->Int:=fun a b=>if a<m then G a b else 0
theorem zKb{C m n:Nat}{c:Nat->Nat}{G:Nat->Nat->Int}(h:Hnf C m m c G)(hm:m<=n):Hnf C n m c (zLO m G):=by
 have e:∀a,a<m->∀b,zLO m G a b=G a b:=fun a ha b=>if_pos ha
 exact⟨hm,⟨h.ech.lt,fun k hk=>by rw[e k hk];exact h.ech.pos k hk,fun k hk t ht=>by rw[e k hk];exact h.ech.zero k hk t ht,h.ech.inc⟩,
  fun i j h1 h2 h3=>by rw[e i oM,e j h2];exact h.red i j h1 h2 h3,fun a h1 _ t _=>if_neg oM⟩
theorem zIR{C m m' n:Nat}{G G':Nat->Nat->Int}(hm:m<=n)(h:∀a,a<m'->zAE m C G (G' a)):zAo n C (zLO m G) (zLO m' G'):=by
 have hY:∀a,∃Y:Nat->Int,a<m'->∀b,b<C->G' a b=zI m fun t=>Y t*G t b:=fun a=>by
  by_cases ha:a<m'
  ·obtain⟨Y,h⟩:=h a ha
   exact⟨Y,fun _=>h⟩
  ·exact⟨fun _=>0,fun h=>absurd h ha⟩
 refine⟨fun a t=>if a<m' then(hY a).choose t else 0,fun a _ b hb=>?_⟩;rw[zBf hm (fun t h1 _=>by rw[show zLO m G t b=0 from if_neg oM,Int.mul_zero])];by_cases ha:a<m'
 ·rw[show zLO m' G' a b=G' a b from if_pos ha,(hY a).choose_spec ha b hb]
  exact zD fun t ht=>by dsimp only;rw[if_pos ha,show zLO m G t b=G t b from if_pos ht]
 ·rw[show zLO m' G' a b=0 from if_neg ha]
  exact(yD fun t _=>by dsimp only;rw[if_neg ha,Int.zero_mul]).symm
theorem HB.eq{C m m':Nat}{G G':Nat->Nat->Int}{L L':(Nat->Int)->Prop}(h:HB C m G L)(h':HB C m' G' L')(e:∀x,L x↔L' x):m=m'/\∀a,a<m->∀b,b<C->G' a b=G a b:=by
 obtain⟨c,hc⟩:=h.hnf;obtain⟨c',hc'⟩:=h'.hnf;have s1:∀a,a<m'->zAE m C G (G' a):=fun a ha=>(h.iff _).1 ((e _).2 ((h'.iff _).2 (zAE.row G' ha)))
 have s2:∀a,a<m->zAE m' C G' (G a):=fun a ha=>(h'.iff _).1 ((e _).1 ((h.iff _).2 (zAE.row G ha)))
 obtain⟨e1,-,e2⟩:=zFG (zKb hc (Nat.le_add_right m m')) (zKb hc' (Nat.le_add_left m' m)) (zIR (Nat.le_add_right m m') s1) (zIR (Nat.le_add_left m' m) s2);refine⟨e1,fun a ha b hb=>?_⟩;have:=e2 a oM b hb;rwa[show zLO m' G' a b=G' a b from if_pos oM,show zLO m G a b=G a b from if_pos ha]at this
theorem HB.mat{C m m':Nat}{G G':Nat->Nat->Int}{L L':(Nat->Int)->Prop}(h:HB C m G L)(h':HB C m' G' L')(e:∀x,L x↔L' x):m=m'/\genM m C G=genM m' C G':=by
 obtain⟨rfl,e2⟩:=h.eq h' e;exact⟨rfl,zR fun a ha b hb=>(e2 a ha b hb).symm⟩
theorem HB.of{C m:Nat}{G:Nat->Nat->Int}{L L':(Nat->Int)->Prop}(h:HB C m G L)(e:∀x,L x↔L' x):HB C m G L':=⟨h.hnf,fun x=>(e x).symm.trans (h.iff x)⟩
theorem zDD.hb{R C r:Nat}{c:Nat->Nat}{A H:Nat->Nat->Int}(h:zDD R C r c A H):HB C r H (zAE R C A):=by
 refine⟨⟨c,xgf _,h.hnf.ech,h.hnf.red,fun a h1 h2=>by omega⟩,fun x=>⟨zAE.sub fun a ha=>?_,zAE.sub fun a ha=>?_⟩⟩
 ·obtain⟨X,hX⟩:=h.hnf.span h.sp
  exact⟨X a,fun b hb=>hX a ha b hb⟩
 ·obtain⟨X,hX⟩:=h.sp'
  exact⟨X a,fun b hb=>hX a (by have:=h.hnf.le;omega) b hb⟩
theorem zK2{r R:Nat}(hr:r<=R){f:Nat->Int}(h:∀t,t<r->f t=0):zI R f=zI (R-r) fun a=>f (r+a):=by
 obtain⟨d,rfl⟩:=Nat.exists_eq_add_of_le hr;rw[Nat.add_sub_cancel_left];clear hr;induction d with
 |zero=>exact yD h
 |succ d ih=>show zI (r+d) f+f (r+d)=_;rw[ih];rfl
theorem zMa{r:Nat}{F:Nat->Nat->Int}{w:Nat->Int}(hd:det r F≠0)(h:∀b,b<r->(zI r fun t=>w t*F t b)=0):∀j,j<r->w j=0:=fun j hj=>by
 have e1:det r (zEt F j fun b=>zI r fun t=>w t*F t b)=0:=zAB hj fun b hb=>by unfold zEt;rw[if_pos rfl];exact h b hb
 rw[zCV hj,qW hj (fun t ht hne=>?_),zKu]at e1
 ·rcases Int.mul_eq_zero.1 e1 with h0|h0
  ·exact h0
  ·exact absurd h0 hd
 ·have:det r (zEt F j (F t))=0:=by
   rcases Nat.lt_or_ge t j with h2|h2
   ·exact zB6 h2 hj fun b=>by unfold zEt;rw[if_pos rfl,if_neg oM]
   ·exact zB6 (c:=j) (d:=t) oM ht fun b=>by unfold zEt;rw[if_pos rfl,if_neg oM]
  rw[this,Int.mul_zero]
theorem zEK{n:Nat}{U V:Nat->Nat->Int}(h:∀a,a<n->∀b,b<n->zI n (fun t=>U a t*V t b)=idf a b):∀a,a<n->∀b,b<n->zI n (fun t=>V a t*U t b)=idf a b:=by
 obtain⟨σ,hσ,hd⟩:=zH4 h;have hV:det n V≠0:=fun h0=>by
  have:=zCp (A:=V) σ (fun b=>b) hσ fun a ha=>ha
  rw[h0]at this;exact hd (Int.zero_dvd.1 this)
 intro a ha b hb;have:=zMa (w:=fun b=>zI n (fun t=>V a t*U t b)-idf a b) hV (fun b' hb'=>by
  have e1:(zI n fun t=>(zI n (fun s=>V a s*U s t)-idf a t)*V t b')=(zI n fun t=>zI n (fun s=>V a s*U s t)*V t b')+-1*zI n fun t=>idf a t*V t b':=by
   rw[<-zV,<-jE];exact zD fun t _=>by rw[Int.sub_mul];omega
  have e2:(zI n fun t=>zI n (fun s=>V a s*U s t)*V t b')=V a b':=by
   have:(zI n fun t=>zI n (fun s=>V a s*U s t)*V t b')=zI n fun t=>zI n fun s=>V a s*(U s t*V t b'):=zD fun t _=>by
    rw[<-jC];exact zD fun s _=>Int.mul_assoc _ _ _
   rw[this,yB];have:(zI n fun s=>zI n fun t=>V a s*(U s t*V t b'))=zI n fun s=>V a s*idf s b':=zD fun s hs=>by rw[zV,h s hs b' hb']
   rw[this,qW hb' (fun s _ hne=>by rw[show idf s b'=0 from if_neg hne,Int.mul_zero]),show idf b' b'=1 from if_pos rfl,Int.mul_one]
  have e3:(zI n fun t=>idf a t*V t b')=V a b':=by
   rw[qW ha (fun s _ hne=>by rw[show idf a s=0 from if_neg (fun e=>hne e.symm),Int.zero_mul]),show idf a a=1 from if_pos rfl,Int.one_mul]
  show(zI n fun t=>(zI n (fun s=>V a s*U s t)-idf a t)*V t b')=0;rw[e1,e2,e3];omega) b hb
 omega
def zEx(r:Nat)(U:Nat->Nat->Int):Nat->Nat->Int:=fun a b=>U (r+a) b
theorem zAf{n m:Nat}(x:Nat->Int)(F:Nat->Nat->Int)(y:Nat->Int):(zI m fun t=>zI n (fun s=>x s*F s t)*y t)=zI n fun s=>x s*zI m fun t=>F s t*y t:=by
 have:(zI m fun t=>zI n (fun s=>x s*F s t)*y t)=zI m fun t=>zI n fun s=>x s*(F s t*y t):=zD fun t _=>by
  rw[<-jC];exact zD fun s _=>Int.mul_assoc _ _ _
 rw[this,yB];exact zD fun s _=>zV _ _ _
theorem jH.ker{R C r:Nat}{c:Nat->Nat}{A H U V:Nat->Nat->Int}(h:jH R C r c A H U V)(x:Nat->Int):zAE (R-r) R (zEx r U) x↔zE3 R C A x:=by
 have hr:=h.hnf.le;constructor
 ·rintro⟨y,hy⟩ b hb
  have e:(zI R fun a=>x a*A a b)=zI R fun a=>zI (R-r) (fun s=>y s*zEx r U s a)*A a b:=zD fun a ha=>by rw[hy a ha]
  rw[e,zAf];refine yD fun s hs=>?_
  have:=h.mul (r+s) oM b hb;rw[h.hnf.zero (r+s) oM oM b hb]at this;rw[show(zI R fun t=>zEx r U s t*A t b)=0 from this.symm,Int.mul_zero]
 ·intro hx
  obtain⟨z,hz⟩:∃z:Nat->Int,∀t,z t=zI R fun s=>x s*V s t:=⟨_,fun _=>rfl⟩
  have h0:∀b,b<C->(zI r fun t=>z t*H t b)=0:=fun b hb=>by
   rw[<-zBf hr (fun t h1 h2=>by rw[h.hnf.zero t h1 h2 b hb,Int.mul_zero])];have e:(zI R fun t=>z t*H t b)=zI R fun t=>zI R (fun s=>x s*V s t)*H t b:=zD fun t _=>by rw[hz]
   rw[e,zAf,<-hx b hb];exact zD fun s hs=>by rw[h.back s hs b hb]
  have hz0:∀t,t<r->z t=0:=by
   refine fun t ht=>Classical.byContradiction fun hne=>?_
   obtain⟨u,hu,hu1,hu2⟩:=zFk ⟨t,ht,hne⟩;have e1:=zHA h.hnf.ech hu hu2;rw[h0 _ (h.hnf.ech.lt u hu)]at e1;rcases Int.mul_eq_zero.1 e1.symm with h3|h3
   ·exact hu1 h3
   ·have:=h.hnf.ech.pos u hu
    omega
  refine⟨fun a=>z (r+a),fun b hb=>?_⟩;have e:(zI R fun t=>z t*U t b)=x b:=by
   have e1:(zI R fun t=>z t*U t b)=zI R fun t=>zI R (fun s=>x s*V s t)*U t b:=zD fun t _=>by rw[hz]
   rw[e1,zAf,qW hb (fun s hs hne=>by rw[zEK h.inv s hs b hb,show idf s b=0 from if_neg hne,Int.mul_zero]),zEK h.inv b hb b hb,show idf b b=1 from if_pos rfl,Int.mul_one]
  rw[<-e,zK2 hr (fun t ht=>by rw[hz0 t ht,Int.zero_mul])];rfl
theorem zNf{R C m:Nat}{A K:Nat->Nat->Int}(h:HB C m K (zE3 C R (trF A)))(x:Nat->Int):zE3 C m (trF K) x↔zBp R C A x:=by
 have hk:∀y:Nat->Int,zE3 C R (trF A) y↔∀a,a<R->(zI C fun b=>A a b*y b)=0:=fun y=>by
  constructor<;>(intro hy a ha;rw[<-hy a ha];exact zD fun b _=>Int.mul_comm _ _)
 constructor
 ·intro hx y hy
  obtain⟨z,hz⟩:=(h.iff y).1 ((hk y).2 hy);have e:(zI C fun b=>x b*y b)=zI C fun b=>zI m (fun s=>z s*K s b)*x b:=zD fun b hb=>by rw[<-hz b hb,Int.mul_comm]
  rw[e,zAf];refine yD fun s hs=>?_
  have:=hx s hs;rw[show(zI C fun t=>K s t*x t)=0 by rw[<-this];exact zD fun t _=>Int.mul_comm _ _,Int.mul_zero]
 ·intro hx i hi
  exact hx (K i) ((hk _).1 ((h.iff _).2 (zAE.row K hi)))
def zCR(k R C:Nat)(A:Nat->Nat->Int):Prop:=∃σ τ:Nat->Nat,(∀a,a<k->σ a<R)/\(∀a,a<k->τ a<C)/\det k (fun a b=>A (σ a) (τ b))≠0
theorem zCR.tr{k R C:Nat}{A:Nat->Nat->Int}(h:zCR k R C A):zCR k C R (trF A):=by
 obtain⟨σ,τ,h1,h2,h3⟩:=h;refine⟨τ,σ,h2,h1,fun h0=>h3 ?_⟩;rw[<-jI,<-h0];rfl
theorem zCh{k R q C:Nat}{F X G:Nat->Nat->Int}(h:∀a,a<R->∀b,b<C->F a b=zI q fun t=>X a t*G t b)(hm:zCR k R C F):k<=q:=by
 obtain⟨σ,τ,hσ,hτ,hd⟩:=hm;refine Nat.le_of_not_lt fun hlt=>hd ?_
 have h1:(0:Int)∣det k fun a b=>zI q fun t=>X (σ a) t*G t (τ b):=yY (P:=fun a t=>X (σ a) t) (F:=fun t b=>G t (τ b)) fun ρ hρ=>by
  refine zAd (R:=q) (F:=fun t b=>G t (τ b)) (fun ρ hρ hi=>?_) ρ hρ;have h2:=hi.le (k-1) oM;have h3:=hρ (k-1) oM;omega
 rw[qU (G:=fun a b=>F (σ a) (τ b)) fun a ha b hb=>(h _ (hσ a ha) _ (hτ b hb)).symm]at h1;exact Int.zero_dvd.1 h1
theorem zCR.of_mul{k R q C:Nat}{F X G:Nat->Nat->Int}(h:∀a,a<R->∀b,b<C->F a b=zI q fun t=>X a t*G t b)(hm:zCR k R C F):zCR k q C G:=by
 obtain⟨σ,τ,hσ,hτ,hd⟩:=hm;refine Classical.byContradiction fun hn=>hd ?_
 have h1:(0:Int)∣det k fun a b=>zI q fun t=>X (σ a) t*G t (τ b):=yY (P:=fun a t=>X (σ a) t) (F:=fun t b=>G t (τ b)) fun ρ hρ=>by
  have:det k (fun a b=>G (ρ a) (τ b))=0:=Classical.byContradiction fun h0=>hn ⟨ρ,τ,hρ,hτ,h0⟩
  rw[this];exact Int.dvd_refl 0
 rw[qU (G:=fun a b=>F (σ a) (τ b)) fun a ha b hb=>(h _ (hσ a ha) _ (hτ b hb)).symm]at h1;exact Int.zero_dvd.1 h1
theorem zFx{n:Nat}{f:Nat->Int}(h:∀i,i<n->f i≠0):yW n f≠0:=by
 induction n with
 |zero=>exact(show(1:Int)≠0 by decide)
 |succ n ih=>
  intro h0;rcases Int.mul_eq_zero.1 (show yW n f*f n=0 from h0)with h1|h1
  ·exact ih (fun i hi=>h i oM) h1
  ·exact h n oM h1
theorem Ech.min1{C r:Nat}{c:Nat->Nat}{H:Nat->Nat->Int}(h:Ech C r c H):zCR r r C H:=by
 refine⟨fun a=>a,c,fun a ha=>ha,h.lt,?_⟩;rw[zCq fun a ha b hb hba=>h.zero a ha _ (h.inc b a hba ha)];exact zFx fun i hi=>by have:=h.pos i hi;omega
theorem zDD.min1{R C r:Nat}{c:Nat->Nat}{A H:Nat->Nat->Int}(h:zDD R C r c A H):zCR r R C A:=by
 obtain⟨X,hX⟩:=h.sp';exact zCR.of_mul (F:=H) (fun a ha b hb=>hX a (by have:=h.hnf.le;omega) b hb) h.hnf.ech.min1
theorem zDD.rank{R C r k:Nat}{c:Nat->Nat}{A H:Nat->Nat->Int}(h:zDD R C r c A H)(hm:zCR k R C A):k<=r:=by
 obtain⟨X,hX⟩:=h.hnf.span h.sp;exact zCh hX hm
theorem HB.min1{C m:Nat}{G:Nat->Nat->Int}{L:(Nat->Int)->Prop}(h:HB C m G L):zCR m m C G:=by
 obtain⟨c,hc⟩:=h.hnf;exact hc.ech.min1
theorem zAS{p q C:Nat}{F G:Nat->Nat->Int}(h:∀a,a<p->zAE q C G (F a)):∃X:Nat->Nat->Int,∀a,a<p->∀b,b<C->F a b=zI q fun t=>X a t*G t b:=by
 have hY:∀a,∃Y:Nat->Int,a<p->∀b,b<C->F a b=zI q fun t=>Y t*G t b:=fun a=>by
  by_cases ha:a<p
  ·obtain⟨Y,h⟩:=h a ha
   exact⟨Y,fun _=>h⟩
  ·exact⟨fun _=>0,fun h=>absurd h ha⟩
 exact⟨fun a=>(hY a).choose,fun a ha=>(hY a).choose_spec ha⟩
theorem zCs{R C r m:Nat}{c:Nat->Nat}{A H U V G:Nat->Nat->Int}(h:jH R C r c A H U V)(hb:HB R m G (zE3 R C A)):m+r=R:=by
 have hr:=h.hnf.le;have hK:zCR (R-r) (R-r) R (zEx r U):=by
  have h1:∀a,a<R-r->∀b,b<R-r->(zI R fun t=>zEx r U a t*V t (r+b))=idf a b:=fun a ha b hb=>by
   have:=h.inv (r+a) oM (r+b) oM;show(zI R fun t=>U (r+a) t*V t (r+b))=_;rw[this];unfold idf;by_cases e:a=b
   ·rw[if_pos e,if_pos oM]
   ·rw[if_neg e,if_neg oM]
  refine Classical.byContradiction fun hn=>?_
  have h2:(0:Int)∣det (R-r) fun a b=>zI R fun t=>zEx r U a t*V t (r+b):=zA5 (F:=zEx r U) (Q:=fun t b=>V t (r+b)) fun τ hτ=>by
   have:det (R-r) (fun a b=>zEx r U a (τ b))=0:=Classical.byContradiction fun h0=>hn ⟨fun a=>a,τ,fun a ha=>ha,hτ,h0⟩
   rw[this];exact Int.dvd_refl 0
  rw[qU (G:=idf) h1,zFf]at h2;have:=Int.zero_dvd.1 h2;omega
 obtain⟨X,hX⟩:=zAS (F:=zEx r U) (G:=G) (p:=R-r) (q:=m) (C:=R) fun a ha=>(hb.iff _).1 ((h.ker _).1 (zAE.row _ ha))
 obtain⟨Y,hY⟩:=zAS (F:=G) (G:=zEx r U) (p:=m) (q:=R-r) (C:=R) fun a ha=>(h.ker _).2 ((hb.iff _).2 (zAE.row _ ha))
 have h1:=zCh hX hK;have h2:=zCh hY hb.min1;omega
theorem zER{k R C:Nat}{A:Nat->Nat->Int}(h:¬ zCR k R C A):¬ zCR (k+1) (R+1) C A:=by
 rintro⟨σ,τ,hσ,hτ,hd⟩;refine hd (Int.zero_dvd.1 ?_);have h0:∀σ τ:Nat->Nat,(∀a,a<k->σ a<R)->(∀a,a<k->τ a<C)->det k (fun a b=>A (σ a) (τ b))=0:=fun σ τ h1 h2=>Classical.byContradiction fun h3=>h ⟨σ,τ,h1,h2,h3⟩
 refine zAd (R:=R+1) (F:=fun a b=>A a (τ b)) (fun σ hσ hi=>?_) σ hσ;have hlow:∀a,a<k->σ a<R:=fun a ha=>by
  have h1:=hi.lt a k ha oM;have h2:=hσ k oM;omega
 obtain⟨q,hq0,hq1⟩:∃q:Nat->Nat,q 0=σ k/\∀a,q (a+1)=σ a:=⟨fun a=>if a=0 then σ k else σ (a-1),rfl,fun a=>rfl⟩;have e1:det (k+1) (fun a b=>A (q a) (τ b))=0:=by
  rw[jW];refine yD fun j hj=>?_
  have:det k (mnr (fun a b=>A (q a) (τ b)) 0 j)=0:=by
   have:=h0 σ (fun b=>τ (sk j b)) hlow fun b hb=>hτ _ (zJQ hb)
   rw[<-this];exact qU fun a _ b _=>by
    show A (q (sk 0 a)) (τ (sk j b))=_;rw[zAw,hq1]
  rw[this,Int.mul_zero,Int.mul_zero]
 have e2:=zCp (n:=k+1) (A:=fun a b=>A (q a) (τ b)) (fun a=>if a=k then 0 else a+1) (fun b=>b) (fun a ha=>by split<;>omega) fun b hb=>hb
 rw[e1]at e2;rw[show det (k+1) (fun a b=>A (σ a) (τ b))=det (k+1) (fun a b=>A (q (if a=k then 0 else a+1)) (τ b)) from qU fun a ha b hb=>by
  by_cases e:a=k
  ·rw[if_pos e,hq0,e]
  ·rw[if_neg e,hq1]]
 exact e2
theorem zCR.down{k R C:Nat}{A:Nat->Nat->Int}(h:zCR (k+1) R C A):zCR k R C A:=Classical.byContradiction fun hn=>by
 refine zER hn ?_;obtain⟨σ,τ,a,b,c⟩:=h;exact⟨σ,τ,fun i hi=>by have:=a i hi;omega,b,c⟩
theorem zL6{n c:Nat}(hc:c<n)(x:Int)(f:Nat->Int):(zI n fun s=>(if c=s then x else 0)*f s)=x*f c:=by
 rw[qW hc (fun i _ hne=>by rw[if_neg (fun e=>hne e.symm),Int.zero_mul]),if_pos rfl]
theorem zNF{C h:Nat}{A:Nat->Nat->Int}(h1:1<=h):∀R,R<=4->leM h R C A->∃r m,∃(ρ:Nat->Nat) (W:Nat->Nat->Int),m+r=R/\zCR r R C A/\¬ zCR (r+1) R C A∧
  (∀i,i<m->ρ i<R/\W i (ρ i)≠0/\(∀t,ρ i<t->W i t=0)/\zE3 R C A (W i)/\∀t,(W i t).natAbs<=96*h^4)/\∀i j,i<j->j<m->ρ i<ρ j:=by
 intro R;induction R with
 |zero=>
  intro _ _;refine⟨0,0,fun _=>0,fun _ _=>0,rfl,⟨fun a=>a,fun a=>a,fun a ha=>by omega,fun a ha=>by omega,show(1:Int)≠0 by decide⟩,?_,fun i hi=>by omega,fun i j _ hj=>by omega⟩;rintro⟨σ,τ,hσ,-,-⟩;have:=hσ 0 oM;omega
 | succ R ih=>
  intro hR hA;obtain⟨r,m,ρ,W,e1,hm,hn,hW,hρ⟩:=ih oM fun a ha b hb=>hA a oM b hb
  have up:zCR r (R+1) C A:=by
   obtain⟨σ,τ,a,b,c⟩:=hm;exact⟨σ,τ,fun i hi=>by have:=a i hi;omega,b,c⟩
  have old:∀i,i<m->ρ i<R+1/\W i (ρ i)≠0/\(∀t,ρ i<t->W i t=0)/\zE3 (R+1) C A (W i)/\∀t,(W i t).natAbs<=96*h^4:=fun i hi=>by
   obtain⟨a1,a2,a3,a4,a5⟩:=hW i hi;refine⟨by omega,a2,a3,fun b hb=>?_,a5⟩;show(zI R fun a=>W i a*A a b)+W i R*A R b=0;rw[a4 b hb,a3 R a1,Int.zero_mul];rfl
  by_cases hx:zCR (r+1) (R+1) C A
  ·exact⟨r+1,m,ρ,W,by omega,hx,zER hn,old,hρ⟩
  ·obtain⟨σ,τ,hσ,hτ,hd⟩:=hm
   obtain⟨q,hq0,hq1⟩:∃q:Nat->Nat,q 0=R/\∀a,q (a+1)=σ a:=⟨fun a=>if a=0 then R else σ (a-1),rfl,fun a=>rfl⟩;have hqR:∀i,i<r+1->q i<R+1:=fun i hi=>by
    cases i with
    |zero=>rw[hq0];omega
    |succ i=>rw[hq1];have:=hσ i oM;omega
   have hqn:∀i,i<r+1->i≠0->q i<R:=fun i hi hne=>by
    cases i with
    |zero=>omega
    |succ i=>rw[hq1];exact hσ i oM
   obtain⟨cf,hcf⟩:∃cf:Nat->Int,∀i,cf i=sg1 i*det r fun a b=>A (q (sk i a)) (τ b):=⟨_,fun _=>rfl⟩
   obtain⟨w,hw⟩:∃w:Nat->Int,∀s,w s=zI (r+1) fun i=>if q i=s then cf i else 0:=⟨_,fun _=>rfl⟩
   have hc0:cf 0≠0:=by
    rw[hcf];have:(det r fun a b=>A (q (sk 0 a)) (τ b))=det r fun a b=>A (σ a) (τ b):=qU fun a _ b _=>by rw[zAw,hq1]
    rw[this];simpa[sg1]using hd
   have hwR:w R=cf 0:=by
    rw[hw,qW (c:=0) oM (fun i hi hne=>by rw[if_neg (by have:=hqn i hi hne;omega)]),if_pos hq0]
   have hker:zE3 (R+1) C A w:=fun b hb=>by
    have e:(zI (R+1) fun s=>w s*A s b)=zI (r+1) fun i=>cf i*A (q i) b:=by
     have e2:(zI (R+1) fun s=>w s*A s b)=zI (R+1) fun s=>zI (r+1) fun i=>(if q i=s then cf i else 0)*A s b:=zD fun s _=>by rw[hw,<-jC]
     rw[e2,yB];exact zD fun i hi=>zL6 (hqR i hi) (cf i) fun s=>A s b
    rw[e];have h0:det (r+1) (fun i j=>A (q i) (if j=0 then b else τ (j-1)))=0:=Classical.byContradiction fun h0=>hx ⟨q,fun j=>if j=0 then b else τ (j-1),hqR,fun j hj=>by
     dsimp only;split
     ·exact hb
     ·exact hτ _ oM,h0⟩
    rw[zCo]at h0;rw[<-h0];refine zD fun i hi=>?_
    have:det r (mnr (fun i j=>A (q i) (if j=0 then b else τ (j-1))) i 0)=det r fun a b'=>A (q (sk i a)) (τ b'):=qU fun a _ b' _=>by
     unfold mnr;dsimp only;rw[zAw,if_neg oM,Nat.add_sub_cancel]
    rw[this,hcf,if_pos rfl,Int.mul_assoc,Int.mul_comm (A (q i) b)]
   have hbd:∀t,(w t).natAbs<=96*h^4:=fun t=>by
    rw[hw];have:=zBg (n:=r+1) (f:=fun i=>if q i=t then cf i else 0) (B:=24*h^4) fun i hi=>by
     split
     ·rw[hcf,zKv]
      exact zJy oM h1 fun a ha b hb=>hA _ (hqR _ (zJQ ha)) _ (hτ b hb)
     ·exact Nat.zero_le _
    refine Nat.le_trans this ?_;have:(r+1)*(24*h^4)<=4*(24*h^4):=Nat.mul_le_mul_right _ oM;omega
   refine⟨r,m+1,fun i=>if i=m then R else ρ i,fun i=>if i=m then w else W i,by omega,up,hx,fun i hi=>?_,fun i j hij hj=>?_⟩
   ·by_cases e:i=m
    ·dsimp only
     rw[if_pos e,if_pos e];refine⟨by omega,by rw[hwR];exact hc0,fun t ht=>?_,hker,hbd⟩;rw[hw];exact yD fun k hk=>by rw[if_neg (by have:=hqR k hk;omega)]
    ·dsimp only
     rw[if_neg e,if_neg e];exact old i oM
   ·dsimp only
    rw[if_neg oM];by_cases e:j=m
    ·rw[if_pos e];exact(hW i oM).1
    ·rw[if_neg e];exact hρ i j hij oM
theorem HB.bound{R C m h:Nat}{W G:Nat->Nat->Int}{L:(Nat->Int)->Prop}(hb:HB C m G L)(hm4:m<=4)(h1:1<=h)(hW:leM h R C W)(hL:∀a,a<R->L (W a))(hm:zCR m R C W):leM (24*(8*h)^4) m C G:=by
 obtain⟨c,hc⟩:=hb.hnf;obtain⟨X,hX⟩:=zAS fun a ha=>(hb.iff _).1 (hL a ha)
 obtain⟨σ,τ,hσ,hτ,hd⟩:=hm;refine zFF (X:=fun t a=>X a t) hm4 h1 hc.ech hc.red hW hX hσ fun h0=>hd ?_
 have h2:(0:Int)∣det m fun a b=>zI m fun t=>X (σ a) t*G t (τ b):=zA5 (F:=fun a t=>X (σ a) t) (Q:=fun t b=>G t (τ b)) fun ρ hρ=>by
  have:=zCp (A:=fun a t=>X (σ a) t) (fun a=>a) ρ (fun a ha=>ha) hρ;rw[show det m (fun a t=>X (σ a) t)=0 from h0]at this;exact this
 rw[qU (G:=fun a b=>W (σ a) (τ b)) fun a ha b hb=>(hX _ (hσ a ha) _ (hτ b hb)).symm]at h2;exact Int.zero_dvd.1 h2
theorem zIx{R C r m h:Nat}{c:Nat->Nat}{A H U V G:Nat->Nat->Int}(hf:jH R C r c A H U V)(hb:HB R m G (zE3 R C A))(hR:R<=4)(h1:1<=h)(hA:leM h R C A):leM (24*(8*(96*h^4))^4) m R G:=by
 obtain⟨r',m',ρ,W,e1,hm,hn,hW,hρ⟩:=zNF h1 R hR hA;have e2:=zCs hf hb;have e3:=hf.lat.rank hm;have e4:r<=r':=Nat.le_of_not_lt fun hlt=>by
  refine hn ?_;have:=hf.lat.min1;obtain⟨d,rfl⟩:=Nat.exists_eq_add_of_lt hlt;clear e1 e2 e3 hlt hW hρ hm hn hf;induction d with
  |zero=>exact this
  |succ d ih=>exact ih this.down
 obtain rfl:m'=m:=by omega
 refine hb.bound (R:=m') (W:=W) oM (Nat.le_trans h1 (Nat.le_trans (Nat.le_pow oM) (Nat.le_mul_of_pos_left _ oM))) (fun a ha b _=>(hW a ha).2.2.2.2 b) (fun a ha=>(hW a ha).2.2.2.1) ⟨fun a=>a,ρ,fun a ha=>ha,fun a ha=>(hW a ha).1,?_⟩;rw[zBC fun a ha b hb' hab=>(hW a ha).2.2.1 _ (hρ a b hab hb')];exact zFx fun i hi=>(hW i hi).2.1
theorem zOX{R C k m:Nat}{A K S:Nat->Nat->Int}(hK:HB C k K (zE3 C R (trF A)))(hS:HB C m S (zE3 C k (trF K))):HB C m S (zBp R C A):=hS.of (zNf hK)
theorem zBp.self{R C a:Nat}{A:Nat->Nat->Int}(ha:a<R):zBp R C A (A a):=fun _ hy=>hy a ha
theorem zBp.same{R R' C:Nat}{A B:Nat->Nat->Int}(h1:∀a,a<R->zBp R' C B (A a))(h2:∀a,a<R'->zBp R C A (B a))(x:Nat->Int):zBp R C A x↔zBp R' C B x:=
 ⟨fun h y hy=>h y fun a ha=>h1 a ha y hy,fun h y hy=>h y fun a ha=>h2 a ha y hy⟩
theorem zBp.of_span{R C m:Nat}{A G:Nat->Nat->Int}(h:∀a,a<m->zBp R C A (G a)){x:Nat->Int}(hx:zAE m C G x):zBp R C A x:=fun y hy=>by
 obtain⟨z,hz⟩:=hx;have e:(zI C fun b=>x b*y b)=zI C fun b=>zI m (fun s=>z s*G s b)*y b:=zD fun b hb=>by rw[hz b hb]
 rw[e,zAf];exact yD fun s hs=>by rw[show(zI C fun t=>G s t*y t)=0 from h s hs y hy,Int.mul_zero]
theorem HB.sat{R C m:Nat}{A S:Nat->Nat->Int}(h:HB C m S (zBp R C A))(x:Nat->Int):zBp m C S x↔zBp R C A x:=
 zBp.same (fun a ha=>(h.iff _).2 (zAE.row S ha)) (fun a ha=>zBp.of_span (fun t ht=>zBp.self ht) ((h.iff _).1 (zBp.self ha))) x
theorem zNE{n C:Nat}(A:Nat->Nat->Int):∀a,a<n->∀b,b<C->A a b=zI n fun t=>idf a t*A t b:=fun a ha b _=>by
 rw[qW ha (fun i _ hne=>by rw[show idf a i=0 from if_neg (fun e=>hne e.symm),Int.zero_mul]),show idf a a=1 from if_pos rfl,Int.one_mul]
theorem zCR.le{k R C:Nat}{A:Nat->Nat->Int}(h:zCR k R C A):k<=R:=zCh (zNE (n:=R) (C:=C) A) h
theorem zKs{R C m h:Nat}{A S:Nat->Nat->Int}(hS:HB C m S (zBp R C A))(hm4:m<=4)(h1:1<=h)(hA:leM h R C A)(hm:zCR m R C A):leM (24*(8*h)^4) m C S:=
 hS.bound hm4 h1 hA (fun a ha=>zBp.self ha) hm
structure zJi(R C:Nat)(A:Nat->Nat->Int):Prop where
 sat:∀x,zBp R C A x->zAE R C A x
 full:zCR R R C A
theorem zLy{n:Nat}{f:Nat->Int}(hp:∀i,i<n->0<f i)(h:yW n f∣1):∀i,i<n->f i=1:=by
 induction n with
 |zero=>intro i hi;omega
 | succ n ih=>
  have h2:yW n f*f n∣1:=h;have hn:f n∣1:=Int.dvd_trans ⟨yW n f,Int.mul_comm _ _⟩ h2;have hm:yW n f∣1:=Int.dvd_trans ⟨f n,rfl⟩ h2;intro i hi;by_cases e:i=n
  ·rw[e]
   exact Int.eq_one_of_dvd_one (Int.le_of_lt (hp n oM)) hn
  ·exact ih (fun i hi=>hp i oM) hm i oM
theorem zDd{n R r:Nat}{c:Nat->Nat}{H:Nat->Nat->Int}(hH:Hnf R n r c H)(hr:r=R):∀k,k<R->c k=k:=by
 subst hr;have h1:∀d k,k+d+1=r->c k+d<r:=by
  intro d;induction d with
  |zero=>intro k hk;exact hH.ech.lt k oM
  |succ d ih=>
   intro k hk;have h1:=ih (k+1) oM;have h2:=hH.ech.inc k (k+1) oM oM;omega
 have h2:∀k,k<r->k<=c k:=by
  intro k;induction k with
  |zero=>intro _;omega
  |succ k ih=>
   intro hk;have h1:=ih oM;have h2:=hH.ech.inc k (k+1) oM hk;omega
 intro k hk;have a:=h1 (r-1-k) k oM;have b:=h2 k hk;omega
theorem zIE{R C r:Nat}{c:Nat->Nat}{A H U V:Nat->Nat->Int}(h:jH C R r c (trF A) H U V):∀a,a<R->∀b,b<C->A a b=zI C fun t=>V b t*H t a:=fun a ha b hb=>h.back b hb a ha
theorem zJi.ones{R C r:Nat}{c:Nat->Nat}{A H U V:Nat->Nat->Int}(hP:zJi R C A)(h:jH C R r c (trF A) H U V):R<=C/\∀i,i<R->H i i=1:=by
 have hr:r=R:=by
  have h1:=h.lat.rank hP.full.tr;have h2:r<=R:=by
   exact zCR.le (A:=A) h.lat.min1.tr
  omega
 subst hr;have hRC:r<=C:=h.hnf.le;have hc:=zDd h.hnf rfl;have hpos:∀i,i<r->0<H i i:=fun i hi=>by have:=h.hnf.ech.pos i hi;rwa[hc i hi]at this
 have hup:∀a,a<r->∀b,b<r->b<a->H a b=0:=fun a ha b hb hab=>h.hnf.ech.zero a ha b (by rw[hc a ha];exact hab)
 have hdH:det r H≠0:=by rw[zCq hup];exact zFx fun i hi=>by have:=hpos i hi;omega
 have hA:∀a,a<r->∀b,b<C->A a b=zI r fun t=>V b t*H t a:=fun a ha b hb=>by
  rw[zIE h a ha b hb];exact zBf hRC fun t h1 h2=>by rw[h.hnf.zero t h1 h2 a ha,Int.mul_zero]
 refine⟨hRC,zLy hpos ?_⟩;rw[<-zCq hup];have hsat:∀t,t<r->zBp r C A fun b=>V b t:=fun t ht y hy=>by
  refine zMa (w:=fun t=>zI C fun b=>V b t*y b) hdH (fun a ha=>?_) t ht;have e:(zI r fun t=>(zI C fun b=>V b t*y b)*H t a)=zI C fun b=>y b*zI r fun t=>V b t*H t a:=by
   rw[<-zAf];exact zD fun t _=>by congr 1;exact zD fun b _=>Int.mul_comm _ _
  rw[e,<-hy a ha];exact zD fun b hb=>by rw[hA a ha b hb,Int.mul_comm]
 obtain⟨Y,hY⟩:=zAS (F:=fun t b=>V b t) (G:=A) (p:=r) (q:=r) (C:=C) fun t ht=>hP.sat _ (hsat t ht)
 have hI:∀t,t<r->∀s,s<r->(zI r fun a=>Y t a*H s a)=idf t s:=fun t ht s hs=>by
  have e1:∀b,b<C->(zI r fun q=>(zI r fun a=>Y t a*H q a)*V b q)=V b t:=fun b hb=>by
   rw[hY t ht b hb,zAf];exact zD fun a ha=>by rw[hA a ha b hb];congr 1;exact zD fun q _=>Int.mul_comm _ _
  have e2:(zI C fun b=>U s b*(zI r fun q=>(zI r fun a=>Y t a*H q a)*V b q))=zI C fun b=>U s b*V b t:=zD fun b hb=>by rw[e1 b hb]
  rw[h.inv s oM t oM]at e2;have e3:(zI C fun b=>U s b*(zI r fun q=>(zI r fun a=>Y t a*H q a)*V b q))=zI r fun q=>(zI r fun a=>Y t a*H q a)*idf s q:=by
   have:(zI C fun b=>U s b*(zI r fun q=>(zI r fun a=>Y t a*H q a)*V b q))=zI C fun b=>zI r fun q=>(zI r fun a=>Y t a*H q a)*(U s b*V b q):=zD fun b _=>by
    rw[<-zV];exact zD fun q _=>Int.mul_left_comm _ _ _
   rw[this,yB];exact zD fun q hq=>by rw[zV,h.inv s oM q oM]
  rw[e3,qW hs (fun q _ hne=>by rw[show idf s q=0 from if_neg (fun e=>hne e.symm),Int.mul_zero]),show idf s s=1 from if_pos rfl,Int.mul_one]at e2;rw[e2];unfold idf;by_cases e:s=t
  ·rw[if_pos e,if_pos e.symm]
  ·rw[if_neg e,if_neg (fun e2=>e e2.symm)]
 have h1:det r H∣det r fun t s=>zI r fun a=>Y t a*H s a:=yY (P:=Y) (F:=fun a s=>H s a) fun σ hσ=>by
  have:=zCp (A:=H) (fun b=>b) σ (fun a ha=>ha) hσ;show det r H∣det r (trp fun a b=>H a (σ b));rw[jI];exact this
 rw[qU (G:=idf) hI,zFf]at h1;exact h1
theorem zKY{R C r:Nat}{c:Nat->Nat}{A H U V:Nat->Nat->Int}(h:jH C R r c (trF A) H U V)(hRC:R<=C)(h1:∀i,i<R->H i i=1):∀a,a<R->∀b,b<C->A a b=V b a:=by
 have hr:r=R:=by
  have h2:r<=R:=zCR.le (A:=A) h.lat.min1.tr;rcases Nat.lt_or_ge r R with h3|h3
  ·have:=h.hnf.zero r (xgf _) oM r h3
   rw[h1 r h3]at this;omega
  ·omega
 subst hr;have hc:=zDd h.hnf rfl;intro a ha b hb;rw[zIE h a ha b hb,qW (c:=a) oM (fun t ht hne=>?_),h1 a ha,Int.mul_one];rcases Nat.lt_or_ge t r with htr|htr
 ·have:H t a=0:=by
   rcases Nat.lt_or_ge a t with h2|h2
   ·exact h.hnf.ech.zero t htr a (by rw[hc t htr];exact h2)
   ·have:=h.hnf.red t a oM ha trivial
    rw[hc a ha,h1 a ha]at this;omega
  rw[this,Int.mul_zero]
 ·rw[h.hnf.zero t htr ht a ha,Int.mul_zero]
theorem zHc{R C:Nat}{A Q P:Nat->Nat->Int}(hRC:R<=C)(h:∀a,a<C->∀b,b<C->zI C (fun t=>Q a t*P t b)=idf a b)(hA:∀a,a<R->∀b,b<C->A a b=Q a b):zJi R C A:=by
 have hinv:=zEK h;refine⟨fun x hx=>?_,?_⟩
 ·have hz:∀t,R<=t->t<C->(zI C fun s=>x s*P s t)=0:=fun t h1 h2=>hx (fun s=>P s t) fun a ha=>by
   rw[show(zI C fun b=>A a b*P b t)=zI C fun b=>Q a b*P b t from zD fun b hb=>by rw[hA a ha b hb],h a oM t h2];exact if_neg oM
  refine⟨fun t=>zI C fun s=>x s*P s t,fun b hb=>?_⟩;have e1:(zI C fun t=>(zI C fun s=>x s*P s t)*Q t b)=x b:=by
   rw[zAf,qW hb (fun s hs hne=>by rw[hinv s hs b hb,show idf s b=0 from if_neg hne,Int.mul_zero]),hinv b hb b hb,show idf b b=1 from if_pos rfl,Int.mul_one]
  rw[<-e1,zBf hRC (fun t h1 h2=>by rw[hz t h1 h2,Int.zero_mul])];exact zD fun t ht=>by rw[hA t ht b hb]
 ·refine Classical.byContradiction fun hn=>?_
  have h2:(0:Int)∣det R fun a b=>zI C fun t=>A a t*P t b:=zA5 (F:=A) (Q:=P) fun τ hτ=>by
   have:det R (fun a b=>A a (τ b))=0:=Classical.byContradiction fun h0=>hn ⟨fun a=>a,τ,fun a ha=>ha,hτ,h0⟩
   rw[this];exact Int.dvd_refl 0
  rw[qU (G:=idf) fun a ha b hb=>by
   rw[<-h a oM b oM];exact zD fun t ht=>by rw[hA a ha t ht],zFf]at h2
  have:=Int.zero_dvd.1 h2;omega
theorem zNh{n:Nat}{Q P:Nat->Nat->Int}(h:∀a,a<n->∀b,b<n->zI n (fun t=>P a t*Q t b)=idf a b):zDD n n n (fun k=>k) Q idf:=by
 refine⟨⟨xgf _,⟨fun k hk=>hk,fun k hk=>by rw[show idf k k=1 from if_pos rfl];omega,fun k hk t ht=>if_neg oM,fun k l hkl hl=>hkl⟩,fun i j hij hj _=>?_,fun a h1 h2=>by omega⟩,⟨Q,fun a ha b hb=>?_⟩,⟨P,fun a ha b hb=>(h a ha b hb).symm⟩⟩
 ·rw[show idf i j=0 from if_neg oM,show idf j j=1 from if_pos rfl]
  omega
 ·rw[qW hb (fun i _ hne=>by rw[show idf i b=0 from if_neg hne,Int.mul_zero]),show idf b b=1 from if_pos rfl,Int.mul_one]
end Go.Proofs.YtgnmdddaiefooaaGreat
