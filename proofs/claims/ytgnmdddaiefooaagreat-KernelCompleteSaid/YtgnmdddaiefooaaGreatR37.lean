/- Plain: lattices, their Hermite bases, kernels and saturations. Plain: ranks by minors; how large the Hermite bases of kernels and saturations are. Plain: saturations, primitive matrices, complements. -/
import Derived.Test.YtgnmdddaiefooaaGreatR17
import Derived.Test.YtgnmdddaiefooaaGreatR36
set_option linter.unusedVariables false
set_option linter.unusedSimpArgs false
set_option linter.unusedSectionVars false
set_option maxHeartbeats 16000000
set_option maxRecDepth 100000
namespace Go.Proofs.YtgnmdddaiefooaaGreat
open Go.RowKit
def jK(m C:Nat)(A:Nat->Nat->Int)(x:Nat->Int):Prop:=∃y:Nat->Int,∀b,b<C->x b=zI m fun a=>y a*A a b
def zE1(R C:Nat)(A:Nat->Nat->Int)(x:Nat->Int):Prop:=∀b,b<C->(zI R fun a=>x a*A a b)=0
def zBn(R C:Nat)(A:Nat->Nat->Int)(x:Nat->Int):Prop:=∀y:Nat->Int,(∀a,a<R->(zI C fun b=>A a b*y b)=0)->(zI C fun b=>x b*y b)=0
structure HB(C m:Nat)(G:Nat->Nat->Int)(L:(Nat->Int)->Prop):Prop where
 hnf:∃c,Hnf C m m c G
 iff:∀x,L x↔jK m C G x
theorem jK.row{m C a:Nat}(A:Nat->Nat->Int)(ha:a<m):jK m C A (A a):=
 ⟨fun t=>if t=a then 1 else 0,fun b _=>by rw[qU ha (fun i _ hne=>by dsimp only;rw[if_neg hne,Int.zero_mul])];dsimp only;rw[if_pos rfl,Int.one_mul]⟩
theorem jK.sub{m m' C:Nat}{A G:Nat->Nat->Int}{x:Nat->Int}(h:∀a,a<m->jK m' C G (A a))(hx:jK m C A x):jK m' C G x:=by
 obtain⟨y,hy⟩:=hx;have hY:∀a,∃Y:Nat->Int,a<m->∀b,b<C->A a b=zI m' fun t=>Y t*G t b:=fun a=>by
  by_cases ha:a<m
  ·obtain⟨Y,h⟩:=h a ha
   exact⟨Y,fun _=>h⟩
  ·exact⟨fun _=>0,fun h=>absurd h ha⟩
 refine⟨fun t=>zI m fun a=>y a*(hY a).choose t,fun b hb=>?_⟩;rw[hy b hb];have e:(zI m fun a=>y a*A a b)=zI m fun a=>zI m' fun t=>y a*(hY a).choose t*G t b:=zD fun a ha=>by
  rw[(hY a).choose_spec ha b hb,<-zY];exact zD fun t _=>by rw[Int.mul_assoc]
 rw[e,yB];exact zD fun t _=>jG _ _ _
theorem jK.congr{m C:Nat}{A B:Nat->Nat->Int}(h:∀a,a<m->∀b,b<C->A a b=B a b)(x:Nat->Int):jK m C A x↔jK m C B x:=by
 constructor<;>(rintro⟨y,hy⟩;refine⟨y,fun b hb=>(hy b hb).trans (zD fun a ha=>by rw[h a ha b hb])⟩)
theorem zE1.congr{R C:Nat}{A B:Nat->Nat->Int}(h:∀a,a<R->∀b,b<C->A a b=B a b)(x:Nat->Int):zE1 R C A x↔zE1 R C B x:=by
 constructor<;>(intro hx b hb;rw[<-hx b hb];exact zD fun a ha=>by rw[h a ha b hb])
theorem zBn.congr{R C:Nat}{A B:Nat->Nat->Int}(h:∀a,a<R->∀b,b<C->A a b=B a b)(x:Nat->Int):zBn R C A x↔zBn R C B x:=by
 constructor<;>(intro hx y hy;refine hx y fun a ha=>?_;rw[<-hy a ha];exact zD fun b hb=>by rw[h a ha b hb])
def zLn(m:Nat)(G:Nat->Nat->Int):Nat->Nat->Int:=fun a b=>if a<m then G a b else 0
theorem zKr{C m n:Nat}{c:Nat->Nat}{G:Nat->Nat->Int}(h:Hnf C m m c G)(hm:m<=n):Hnf C n m c (zLn m G):=by
 have e:∀a,a<m->∀b,zLn m G a b=G a b:=fun a ha b=>if_pos ha
 exact⟨hm,⟨h.ech.lt,fun k hk=>by rw[e k hk];exact h.ech.pos k hk,fun k hk t ht=>by rw[e k hk];exact h.ech.zero k hk t ht,h.ech.inc⟩,
  fun i j h1 h2 h3=>by rw[e i oM,e j h2];exact h.red i j h1 h2 h3,fun a h1 _ t _=>if_neg oM⟩
theorem zIa{C m m' n:Nat}{G G':Nat->Nat->Int}(hm:m<=n)(h:∀a,a<m'->jK m C G (G' a)):zAq n C (zLn m G) (zLn m' G'):=by
 have hY:∀a,∃Y:Nat->Int,a<m'->∀b,b<C->G' a b=zI m fun t=>Y t*G t b:=fun a=>by
  by_cases ha:a<m'
  ·obtain⟨Y,h⟩:=h a ha
   exact⟨Y,fun _=>h⟩
  ·exact⟨fun _=>0,fun h=>absurd h ha⟩
 refine⟨fun a t=>if a<m' then(hY a).choose t else 0,fun a _ b hb=>?_⟩;rw[zBB hm (fun t h1 _=>by rw[show zLn m G t b=0 from if_neg oM,Int.mul_zero])];by_cases ha:a<m'
 ·rw[show zLn m' G' a b=G' a b from if_pos ha,(hY a).choose_spec ha b hb]
  exact zD fun t ht=>by dsimp only;rw[if_pos ha,show zLn m G t b=G t b from if_pos ht]
 ·rw[show zLn m' G' a b=0 from if_neg ha]
  exact(yC fun t _=>by dsimp only;rw[if_neg ha,Int.zero_mul]).symm
theorem HB.eq{C m m':Nat}{G G':Nat->Nat->Int}{L L':(Nat->Int)->Prop}(h:HB C m G L)(h':HB C m' G' L')(e:∀x,L x↔L' x):m=m'/\∀a,a<m->∀b,b<C->G' a b=G a b:=by
 obtain⟨c,hc⟩:=h.hnf;obtain⟨c',hc'⟩:=h'.hnf;have s1:∀a,a<m'->jK m C G (G' a):=fun a ha=>(h.iff _).1 ((e _).2 ((h'.iff _).2 (jK.row G' ha)))
 have s2:∀a,a<m->jK m' C G' (G a):=fun a ha=>(h'.iff _).1 ((e _).1 ((h.iff _).2 (jK.row G ha)))
 obtain⟨e1,-,e2⟩:=zDQ (zKr hc (Nat.le_add_right m m')) (zKr hc' (Nat.le_add_left m' m)) (zIa (Nat.le_add_right m m') s1) (zIa (Nat.le_add_left m' m) s2);refine⟨e1,fun a ha b hb=>?_⟩;have:=e2 a oM b hb;rwa[show zLn m' G' a b=G' a b from if_pos oM,show zLn m G a b=G a b from if_pos ha]at this
theorem HB.mat{C m m':Nat}{G G':Nat->Nat->Int}{L L':(Nat->Int)->Prop}(h:HB C m G L)(h':HB C m' G' L')(e:∀x,L x↔L' x):m=m'/\genM m C G=genM m' C G':=by
 obtain⟨rfl,e2⟩:=h.eq h' e;exact⟨rfl,zS fun a ha b hb=>(e2 a ha b hb).symm⟩
theorem HB.of{C m:Nat}{G:Nat->Nat->Int}{L L':(Nat->Int)->Prop}(h:HB C m G L)(e:∀x,L x↔L' x):HB C m G L':=⟨h.hnf,fun x=>(e x).symm.trans (h.iff x)⟩
theorem zCX.hb{R C r:Nat}{c:Nat->Nat}{A H:Nat->Nat->Int}(h:zCX R C r c A H):HB C r H (jK R C A):=by
 refine⟨⟨c,xgf _,h.hnf.ech,h.hnf.red,fun a h1 h2=>by omega⟩,fun x=>⟨jK.sub fun a ha=>?_,jK.sub fun a ha=>?_⟩⟩
 ·obtain⟨X,hX⟩:=h.hnf.span h.sp
  exact⟨X a,fun b hb=>hX a ha b hb⟩
 ·obtain⟨X,hX⟩:=h.sp'
  exact⟨X a,fun b hb=>hX a (by have:=h.hnf.le;omega) b hb⟩
theorem zLQ{r R:Nat}(hr:r<=R){f:Nat->Int}(h:∀t,t<r->f t=0):zI R f=zI (R-r) fun a=>f (r+a):=by
 obtain⟨d,rfl⟩:=Nat.exists_eq_add_of_le hr;rw[Nat.add_sub_cancel_left];clear hr;induction d with
 |zero=>exact yC h
 |succ d ih=>show zI (r+d) f+f (r+d)=_;rw[ih];rfl
theorem zM5{r:Nat}{F:Nat->Nat->Int}{w:Nat->Int}(hd:det r F≠0)(h:∀b,b<r->(zI r fun t=>w t*F t b)=0):∀j,j<r->w j=0:=fun j hj=>by
 have e1:det r (zE2 F j fun b=>zI r fun t=>w t*F t b)=0:=zAE hj fun b hb=>by unfold zE2;rw[if_pos rfl];exact h b hb
 rw[zCc hj,qU hj (fun t ht hne=>?_),zLI]at e1
 ·rcases Int.mul_eq_zero.1 e1 with h0|h0
  ·exact h0
  ·exact absurd h0 hd
 ·have:det r (zE2 F j (F t))=0:=by
   rcases Nat.lt_or_ge t j with h2|h2
   ·exact zB7 h2 hj fun b=>by unfold zE2;rw[if_pos rfl,if_neg oM]
   ·exact zB7 (c:=j) (d:=t) oM ht fun b=>by unfold zE2;rw[if_pos rfl,if_neg oM]
  rw[this,Int.mul_zero]
theorem zEV{n:Nat}{U V:Nat->Nat->Int}(h:∀a,a<n->∀b,b<n->zI n (fun t=>U a t*V t b)=idf a b):∀a,a<n->∀b,b<n->zI n (fun t=>V a t*U t b)=idf a b:=by
 obtain⟨σ,hσ,hd⟩:=zIF h;have hV:det n V≠0:=fun h0=>by
  have:=zCu (A:=V) σ (fun b=>b) hσ fun a ha=>ha
  rw[h0]at this;exact hd (Int.zero_dvd.1 this)
 intro a ha b hb;have:=zM5 (w:=fun b=>zI n (fun t=>V a t*U t b)-idf a b) hV (fun b' hb'=>by
  have e1:(zI n fun t=>(zI n (fun s=>V a s*U s t)-idf a t)*V t b')=(zI n fun t=>zI n (fun s=>V a s*U s t)*V t b')+-1*zI n fun t=>idf a t*V t b':=by
   rw[<-zY,<-jF];exact zD fun t _=>by rw[Int.sub_mul];omega
  have e2:(zI n fun t=>zI n (fun s=>V a s*U s t)*V t b')=V a b':=by
   have:(zI n fun t=>zI n (fun s=>V a s*U s t)*V t b')=zI n fun t=>zI n fun s=>V a s*(U s t*V t b'):=zD fun t _=>by
    rw[<-jG];exact zD fun s _=>Int.mul_assoc _ _ _
   rw[this,yB];have:(zI n fun s=>zI n fun t=>V a s*(U s t*V t b'))=zI n fun s=>V a s*idf s b':=zD fun s hs=>by rw[zY,h s hs b' hb']
   rw[this,qU hb' (fun s _ hne=>by rw[show idf s b'=0 from if_neg hne,Int.mul_zero]),show idf b' b'=1 from if_pos rfl,Int.mul_one]
  have e3:(zI n fun t=>idf a t*V t b')=V a b':=by
   rw[qU ha (fun s _ hne=>by rw[show idf a s=0 from if_neg (fun e=>hne e.symm),Int.zero_mul]),show idf a a=1 from if_pos rfl,Int.one_mul]
  show(zI n fun t=>(zI n (fun s=>V a s*U s t)-idf a t)*V t b')=0;rw[e1,e2,e3];omega) b hb
 omega
def zE5(r:Nat)(U:Nat->Nat->Int):Nat->Nat->Int:=fun a b=>U (r+a) b
theorem zAe{n m:Nat}(x:Nat->Int)(F:Nat->Nat->Int)(y:Nat->Int):(zI m fun t=>zI n (fun s=>x s*F s t)*y t)=zI n fun s=>x s*zI m fun t=>F s t*y t:=by
 have:(zI m fun t=>zI n (fun s=>x s*F s t)*y t)=zI m fun t=>zI n fun s=>x s*(F s t*y t):=zD fun t _=>by
  rw[<-jG];exact zD fun s _=>Int.mul_assoc _ _ _
 rw[this,yB];exact zD fun s _=>zY _ _ _
theorem jI.ker{R C r:Nat}{c:Nat->Nat}{A H U V:Nat->Nat->Int}(h:jI R C r c A H U V)(x:Nat->Int):jK (R-r) R (zE5 r U) x↔zE1 R C A x:=by
 have hr:=h.hnf.le;constructor
 ·rintro⟨y,hy⟩ b hb
  have e:(zI R fun a=>x a*A a b)=zI R fun a=>zI (R-r) (fun s=>y s*zE5 r U s a)*A a b:=zD fun a ha=>by rw[hy a ha]
  rw[e,zAe];refine yC fun s hs=>?_
  have:=h.mul (r+s) oM b hb;rw[h.hnf.zero (r+s) oM oM b hb]at this;rw[show(zI R fun t=>zE5 r U s t*A t b)=0 from this.symm,Int.mul_zero]
 ·intro hx
  obtain⟨z,hz⟩:∃z:Nat->Int,∀t,z t=zI R fun s=>x s*V s t:=⟨_,fun _=>rfl⟩
  have h0:∀b,b<C->(zI r fun t=>z t*H t b)=0:=fun b hb=>by
   rw[<-zBB hr (fun t h1 h2=>by rw[h.hnf.zero t h1 h2 b hb,Int.mul_zero])];have e:(zI R fun t=>z t*H t b)=zI R fun t=>zI R (fun s=>x s*V s t)*H t b:=zD fun t _=>by rw[hz]
   rw[e,zAe,<-hx b hb];exact zD fun s hs=>by rw[h.back s hs b hb]
  have hz0:∀t,t<r->z t=0:=by
   refine fun t ht=>Classical.byContradiction fun hne=>?_
   obtain⟨u,hu,hu1,hu2⟩:=zD2 ⟨t,ht,hne⟩;have e1:=zFj h.hnf.ech hu hu2;rw[h0 _ (h.hnf.ech.lt u hu)]at e1;rcases Int.mul_eq_zero.1 e1.symm with h3|h3
   ·exact hu1 h3
   ·have:=h.hnf.ech.pos u hu
    omega
  refine⟨fun a=>z (r+a),fun b hb=>?_⟩;have e:(zI R fun t=>z t*U t b)=x b:=by
   have e1:(zI R fun t=>z t*U t b)=zI R fun t=>zI R (fun s=>x s*V s t)*U t b:=zD fun t _=>by rw[hz]
   rw[e1,zAe,qU hb (fun s hs hne=>by rw[zEV h.inv s hs b hb,show idf s b=0 from if_neg hne,Int.mul_zero]),zEV h.inv b hb b hb,show idf b b=1 from if_pos rfl,Int.mul_one]
  rw[<-e,zLQ hr (fun t ht=>by rw[hz0 t ht,Int.zero_mul])];rfl
theorem zOG{R C m:Nat}{A K:Nat->Nat->Int}(h:HB C m K (zE1 C R (trF A)))(x:Nat->Int):zE1 C m (trF K) x↔zBn R C A x:=by
 have hk:∀y:Nat->Int,zE1 C R (trF A) y↔∀a,a<R->(zI C fun b=>A a b*y b)=0:=fun y=>by
  constructor<;>(intro hy a ha;rw[<-hy a ha];exact zD fun b _=>Int.mul_comm _ _)
 constructor
 ·intro hx y hy
  obtain⟨z,hz⟩:=(h.iff y).1 ((hk y).2 hy);have e:(zI C fun b=>x b*y b)=zI C fun b=>zI m (fun s=>z s*K s b)*x b:=zD fun b hb=>by rw[<-hz b hb,Int.mul_comm]
  rw[e,zAe];refine yC fun s hs=>?_
  have:=hx s hs;rw[show(zI C fun t=>K s t*x t)=0 by rw[<-this];exact zD fun t _=>Int.mul_comm _ _,Int.mul_zero]
 ·intro hx i hi
  exact hx (K i) ((hk _).1 ((h.iff _).2 (jK.row K hi)))
def zBC(k R C:Nat)(A:Nat->Nat->Int):Prop:=∃σ τ:Nat->Nat,(∀a,a<k->σ a<R)/\(∀a,a<k->τ a<C)/\det k (fun a b=>A (σ a) (τ b))≠0
theorem zBC.tr{k R C:Nat}{A:Nat->Nat->Int}(h:zBC k R C A):zBC k C R (trF A):=by
 obtain⟨σ,τ,h1,h2,h3⟩:=h;refine⟨τ,σ,h2,h1,fun h0=>h3 ?_⟩;rw[<-jM,<-h0];rfl
theorem zDb{k R q C:Nat}{F X G:Nat->Nat->Int}(h:∀a,a<R->∀b,b<C->F a b=zI q fun t=>X a t*G t b)(hm:zBC k R C F):k<=q:=by
 obtain⟨σ,τ,hσ,hτ,hd⟩:=hm;refine Nat.le_of_not_lt fun hlt=>hd ?_
 have h1:(0:Int)∣det k fun a b=>zI q fun t=>X (σ a) t*G t (τ b):=jA (P:=fun a t=>X (σ a) t) (F:=fun t b=>G t (τ b)) fun ρ hρ=>by
  refine zAd (R:=q) (F:=fun t b=>G t (τ b)) (fun ρ hρ hi=>?_) ρ hρ;have h2:=hi.le (k-1) oM;have h3:=hρ (k-1) oM;omega
 rw[qS (G:=fun a b=>F (σ a) (τ b)) fun a ha b hb=>(h _ (hσ a ha) _ (hτ b hb)).symm]at h1;exact Int.zero_dvd.1 h1
theorem zBC.of_mul{k R q C:Nat}{F X G:Nat->Nat->Int}(h:∀a,a<R->∀b,b<C->F a b=zI q fun t=>X a t*G t b)(hm:zBC k R C F):zBC k q C G:=by
 obtain⟨σ,τ,hσ,hτ,hd⟩:=hm;refine Classical.byContradiction fun hn=>hd ?_
 have h1:(0:Int)∣det k fun a b=>zI q fun t=>X (σ a) t*G t (τ b):=jA (P:=fun a t=>X (σ a) t) (F:=fun t b=>G t (τ b)) fun ρ hρ=>by
  have:det k (fun a b=>G (ρ a) (τ b))=0:=Classical.byContradiction fun h0=>hn ⟨ρ,τ,hρ,hτ,h0⟩
  rw[this];exact Int.dvd_refl 0
 rw[qS (G:=fun a b=>F (σ a) (τ b)) fun a ha b hb=>(h _ (hσ a ha) _ (hτ b hb)).symm]at h1;exact Int.zero_dvd.1 h1
theorem zF2{n:Nat}{f:Nat->Int}(h:∀i,i<n->f i≠0):yY n f≠0:=by
 induction n with
 |zero=>exact(show(1:Int)≠0 by decide)
 |succ n ih=>
  intro h0;rcases Int.mul_eq_zero.1 (show yY n f*f n=0 from h0)with h1|h1
  ·exact ih (fun i hi=>h i oM) h1
  ·exact h n oM h1
theorem Ech.min1{C r:Nat}{c:Nat->Nat}{H:Nat->Nat->Int}(h:Ech C r c H):zBC r r C H:=by
 refine⟨fun a=>a,c,fun a ha=>ha,h.lt,?_⟩;rw[zCv fun a ha b hb hba=>h.zero a ha _ (h.inc b a hba ha)];exact zF2 fun i hi=>by have:=h.pos i hi;omega
theorem zCX.min1{R C r:Nat}{c:Nat->Nat}{A H:Nat->Nat->Int}(h:zCX R C r c A H):zBC r R C A:=by
 obtain⟨X,hX⟩:=h.sp';exact zBC.of_mul (F:=H) (fun a ha b hb=>hX a (by have:=h.hnf.le;omega) b hb) h.hnf.ech.min1
theorem zCX.rank{R C r k:Nat}{c:Nat->Nat}{A H:Nat->Nat->Int}(h:zCX R C r c A H)(hm:zBC k R C A):k<=r:=by
 obtain⟨X,hX⟩:=h.hnf.span h.sp;exact zDb hX hm
theorem HB.min1{C m:Nat}{G:Nat->Nat->Int}{L:(Nat->Int)->Prop}(h:HB C m G L):zBC m m C G:=by
 obtain⟨c,hc⟩:=h.hnf;exact hc.ech.min1
theorem zAr{p q C:Nat}{F G:Nat->Nat->Int}(h:∀a,a<p->jK q C G (F a)):∃X:Nat->Nat->Int,∀a,a<p->∀b,b<C->F a b=zI q fun t=>X a t*G t b:=by
 have hY:∀a,∃Y:Nat->Int,a<p->∀b,b<C->F a b=zI q fun t=>Y t*G t b:=fun a=>by
  by_cases ha:a<p
  ·obtain⟨Y,h⟩:=h a ha
   exact⟨Y,fun _=>h⟩
  ·exact⟨fun _=>0,fun h=>absurd h ha⟩
 exact⟨fun a=>(hY a).choose,fun a ha=>(hY a).choose_spec ha⟩
theorem zBN{R C r m:Nat}{c:Nat->Nat}{A H U V G:Nat->Nat->Int}(h:jI R C r c A H U V)(hb:HB R m G (zE1 R C A)):m+r=R:=by
 have hr:=h.hnf.le;have hK:zBC (R-r) (R-r) R (zE5 r U):=by
  have h1:∀a,a<R-r->∀b,b<R-r->(zI R fun t=>zE5 r U a t*V t (r+b))=idf a b:=fun a ha b hb=>by
   have:=h.inv (r+a) oM (r+b) oM;show(zI R fun t=>U (r+a) t*V t (r+b))=_;rw[this];unfold idf;by_cases e:a=b
   ·rw[if_pos e,if_pos oM]
   ·rw[if_neg e,if_neg oM]
  refine Classical.byContradiction fun hn=>?_
  have h2:(0:Int)∣det (R-r) fun a b=>zI R fun t=>zE5 r U a t*V t (r+b):=zA6 (F:=zE5 r U) (Q:=fun t b=>V t (r+b)) fun τ hτ=>by
   have:det (R-r) (fun a b=>zE5 r U a (τ b))=0:=Classical.byContradiction fun h0=>hn ⟨fun a=>a,τ,fun a ha=>ha,hτ,h0⟩
   rw[this];exact Int.dvd_refl 0
  rw[qS (G:=idf) h1,zFk]at h2;have:=Int.zero_dvd.1 h2;omega
 obtain⟨X,hX⟩:=zAr (F:=zE5 r U) (G:=G) (p:=R-r) (q:=m) (C:=R) fun a ha=>(hb.iff _).1 ((h.ker _).1 (jK.row _ ha))
 obtain⟨Y,hY⟩:=zAr (F:=G) (G:=zE5 r U) (p:=m) (q:=R-r) (C:=R) fun a ha=>(h.ker _).2 ((hb.iff _).2 (jK.row _ ha))
 have h1:=zDb hX hK;have h2:=zDb hY hb.min1;omega
theorem zEd{k R C:Nat}{A:Nat->Nat->Int}(h:¬ zBC k R C A):¬ zBC (k+1) (R+1) C A:=by
 rintro⟨σ,τ,hσ,hτ,hd⟩;refine hd (Int.zero_dvd.1 ?_);have h0:∀σ τ:Nat->Nat,(∀a,a<k->σ a<R)->(∀a,a<k->τ a<C)->det k (fun a b=>A (σ a) (τ b))=0:=fun σ τ h1 h2=>Classical.byContradiction fun h3=>h ⟨σ,τ,h1,h2,h3⟩
 refine zAd (R:=R+1) (F:=fun a b=>A a (τ b)) (fun σ hσ hi=>?_) σ hσ;have hlow:∀a,a<k->σ a<R:=fun a ha=>by
  have h1:=hi.lt a k ha oM;have h2:=hσ k oM;omega
 obtain⟨q,hq0,hq1⟩:∃q:Nat->Nat,q 0=σ k/\∀a,q (a+1)=σ a:=⟨fun a=>if a=0 then σ k else σ (a-1),rfl,fun a=>rfl⟩;have e1:det (k+1) (fun a b=>A (q a) (τ b))=0:=by
  rw[jZ];refine yC fun j hj=>?_
  have:det k (mnr (fun a b=>A (q a) (τ b)) 0 j)=0:=by
   have:=h0 σ (fun b=>τ (sk j b)) hlow fun b hb=>hτ _ (zJY hb)
   rw[<-this];exact qS fun a _ b _=>by
    show A (q (sk 0 a)) (τ (sk j b))=_;rw[zAw,hq1]
  rw[this,Int.mul_zero,Int.mul_zero]
 have e2:=zCu (n:=k+1) (A:=fun a b=>A (q a) (τ b)) (fun a=>if a=k then 0 else a+1) (fun b=>b) (fun a ha=>by split<;>omega) fun b hb=>hb
 rw[e1]at e2;rw[show det (k+1) (fun a b=>A (σ a) (τ b))=det (k+1) (fun a b=>A (q (if a=k then 0 else a+1)) (τ b)) from qS fun a ha b hb=>by
  by_cases e:a=k
  ·rw[if_pos e,hq0,e]
  ·rw[if_neg e,hq1]]
 exact e2
theorem zBC.down{k R C:Nat}{A:Nat->Nat->Int}(h:zBC (k+1) R C A):zBC k R C A:=Classical.byContradiction fun hn=>by
 refine zEd hn ?_;obtain⟨σ,τ,a,b,c⟩:=h;exact⟨σ,τ,fun i hi=>by have:=a i hi;omega,b,c⟩
theorem zMc{n c:Nat}(hc:c<n)(x:Int)(f:Nat->Int):(zI n fun s=>(if c=s then x else 0)*f s)=x*f c:=by
 rw[qU hc (fun i _ hne=>by rw[if_neg (fun e=>hne e.symm),Int.zero_mul]),if_pos rfl]
theorem zNo{C h N:Nat}{A:Nat->Nat->Int}(h1:1<=h)(hN:N<=5):∀R,R<=N->leM h R C A->∃r m,∃(ρ:Nat->Nat) (W:Nat->Nat->Int),m+r=R/\zBC r R C A/\¬ zBC (r+1) R C A∧
  (∀i,i<m->ρ i<R/\W i (ρ i)≠0/\(∀t,ρ i<t->W i t=0)/\zE1 R C A (W i)/\∀t,(W i t).natAbs<=N*(24*h^4))/\∀i j,i<j->j<m->ρ i<ρ j:=by
 intro R;induction R with
 |zero=>
  intro _ _;refine⟨0,0,fun _=>0,fun _ _=>0,rfl,⟨fun a=>a,fun a=>a,fun a ha=>by omega,fun a ha=>by omega,show(1:Int)≠0 by decide⟩,?_,fun i hi=>by omega,fun i j _ hj=>by omega⟩;rintro⟨σ,τ,hσ,-,-⟩;have:=hσ 0 oM;omega
 | succ R ih=>
  intro hR hA;obtain⟨r,m,ρ,W,e1,hm,hn,hW,hρ⟩:=ih oM fun a ha b hb=>hA a oM b hb
  have up:zBC r (R+1) C A:=by
   obtain⟨σ,τ,a,b,c⟩:=hm;exact⟨σ,τ,fun i hi=>by have:=a i hi;omega,b,c⟩
  have old:∀i,i<m->ρ i<R+1/\W i (ρ i)≠0/\(∀t,ρ i<t->W i t=0)/\zE1 (R+1) C A (W i)/\∀t,(W i t).natAbs<=N*(24*h^4):=fun i hi=>by
   obtain⟨a1,a2,a3,a4,a5⟩:=hW i hi;refine⟨by omega,a2,a3,fun b hb=>?_,a5⟩;show(zI R fun a=>W i a*A a b)+W i R*A R b=0;rw[a4 b hb,a3 R a1,Int.zero_mul];rfl
  by_cases hx:zBC (r+1) (R+1) C A
  ·exact⟨r+1,m,ρ,W,by omega,hx,zEd hn,old,hρ⟩
  ·obtain⟨σ,τ,hσ,hτ,hd⟩:=hm
   obtain⟨q,hq0,hq1⟩:∃q:Nat->Nat,q 0=R/\∀a,q (a+1)=σ a:=⟨fun a=>if a=0 then R else σ (a-1),rfl,fun a=>rfl⟩;have hqR:∀i,i<r+1->q i<R+1:=fun i hi=>by
    cases i with
    |zero=>rw[hq0];omega
    |succ i=>rw[hq1];have:=hσ i oM;omega
   have hqn:∀i,i<r+1->i≠0->q i<R:=fun i hi hne=>by
    cases i with
    |zero=>omega
    |succ i=>rw[hq1];exact hσ i oM
   obtain⟨cf,hcf⟩:∃cf:Nat->Int,∀i,cf i=sg1 i*det r fun a b=>A (q (sk i a)) (τ b):=⟨_,fun _=>rfl⟩
   obtain⟨w,hw⟩:∃w:Nat->Int,∀s,w s=zI (r+1) fun i=>if q i=s then cf i else 0:=⟨_,fun _=>rfl⟩
   have hc0:cf 0≠0:=by
    rw[hcf];have:(det r fun a b=>A (q (sk 0 a)) (τ b))=det r fun a b=>A (σ a) (τ b):=qS fun a _ b _=>by rw[zAw,hq1]
    rw[this];simpa[sg1]using hd
   have hwR:w R=cf 0:=by
    rw[hw,qU (c:=0) oM (fun i hi hne=>by rw[if_neg (by have:=hqn i hi hne;omega)]),if_pos hq0]
   have hker:zE1 (R+1) C A w:=fun b hb=>by
    have e:(zI (R+1) fun s=>w s*A s b)=zI (r+1) fun i=>cf i*A (q i) b:=by
     have e2:(zI (R+1) fun s=>w s*A s b)=zI (R+1) fun s=>zI (r+1) fun i=>(if q i=s then cf i else 0)*A s b:=zD fun s _=>by rw[hw,<-jG]
     rw[e2,yB];exact zD fun i hi=>zMc (hqR i hi) (cf i) fun s=>A s b
    rw[e];have h0:det (r+1) (fun i j=>A (q i) (if j=0 then b else τ (j-1)))=0:=Classical.byContradiction fun h0=>hx ⟨q,fun j=>if j=0 then b else τ (j-1),hqR,fun j hj=>by
     dsimp only;split
     ·exact hb
     ·exact hτ _ oM,h0⟩
    rw[zCt]at h0;rw[<-h0];refine zD fun i hi=>?_
    have:det r (mnr (fun i j=>A (q i) (if j=0 then b else τ (j-1))) i 0)=det r fun a b'=>A (q (sk i a)) (τ b'):=qS fun a _ b' _=>by
     unfold mnr;dsimp only;rw[zAw,if_neg oM,Nat.add_sub_cancel]
    rw[this,hcf,if_pos rfl,Int.mul_assoc,Int.mul_comm (A (q i) b)]
   have hbd:∀t,(w t).natAbs<=N*(24*h^4):=fun t=>by
    rw[hw];have:=zAX (n:=r+1) (f:=fun i=>if q i=t then cf i else 0) (B:=24*h^4) fun i hi=>by
     split
     ·rw[hcf,zLJ]
      exact zJ9 oM h1 fun a ha b hb=>hA _ (hqR _ (zJY ha)) _ (hτ b hb)
     ·exact Nat.zero_le _
    refine Nat.le_trans this ?_;exact Nat.mul_le_mul_right _ oM
   refine⟨r,m+1,fun i=>if i=m then R else ρ i,fun i=>if i=m then w else W i,by omega,up,hx,fun i hi=>?_,fun i j hij hj=>?_⟩
   ·by_cases e:i=m
    ·dsimp only
     rw[if_pos e,if_pos e];refine⟨by omega,by rw[hwR];exact hc0,fun t ht=>?_,hker,hbd⟩;rw[hw];exact yC fun k hk=>by rw[if_neg (by have:=hqR k hk;omega)]
    ·dsimp only
     rw[if_neg e,if_neg e];exact old i oM
   ·dsimp only
    rw[if_neg oM];by_cases e:j=m
    ·rw[if_pos e];exact(hW i oM).1
    ·rw[if_neg e];exact hρ i j hij oM
theorem HB.bound{R C m h:Nat}{W G:Nat->Nat->Int}{L:(Nat->Int)->Prop}(hb:HB C m G L)(hm4:m<=4)(h1:1<=h)(hW:leM h R C W)(hL:∀a,a<R->L (W a))(hm:zBC m R C W):leM (24*(8*h)^4) m C G:=by
 obtain⟨c,hc⟩:=hb.hnf;obtain⟨X,hX⟩:=zAr fun a ha=>(hb.iff _).1 (hL a ha)
 obtain⟨σ,τ,hσ,hτ,hd⟩:=hm;refine zFM (X:=fun t a=>X a t) hm4 h1 hc.ech hc.red hW hX hσ fun h0=>hd ?_
 have h2:(0:Int)∣det m fun a b=>zI m fun t=>X (σ a) t*G t (τ b):=zA6 (F:=fun a t=>X (σ a) t) (Q:=fun t b=>G t (τ b)) fun ρ hρ=>by
  have:=zCu (A:=fun a t=>X (σ a) t) (fun a=>a) ρ (fun a ha=>ha) hρ;rw[show det m (fun a t=>X (σ a) t)=0 from h0]at this;exact this
 rw[qS (G:=fun a b=>W (σ a) (τ b)) fun a ha b hb=>(hX _ (hσ a ha) _ (hτ b hb)).symm]at h2;exact Int.zero_dvd.1 h2
theorem zHR{R C r m h N:Nat}{c:Nat->Nat}{A H U V G:Nat->Nat->Int}(hf:jI R C r c A H U V)(hb:HB R m G (zE1 R C A))(hN:N<=5)(hN0:0<N)(hR:R<=N)(hm4:m<=4)(h1:1<=h)(hA:leM h R C A):leM (24*(8*(N*(24*h^4)))^4) m R G:=by
 obtain⟨r',m',ρ,W,e1,hm,hn,hW,hρ⟩:=zNo h1 hN R hR hA;have e2:=zBN hf hb;have e3:=hf.lat.rank hm;have e4:r<=r':=Nat.le_of_not_lt fun hlt=>by
  refine hn ?_;have:=hf.lat.min1;obtain⟨d,rfl⟩:=Nat.exists_eq_add_of_lt hlt;clear e1 e2 e3 hlt hW hρ hm hn hf;induction d with
  |zero=>exact this
  |succ d ih=>exact ih this.down
 obtain rfl:m'=m:=by omega
 refine hb.bound (R:=m') (W:=W) oM (Nat.le_trans h1 (Nat.le_trans (Nat.le_pow oM) (Nat.le_trans (Nat.le_mul_of_pos_left _ (show 0<24 by omega)) (Nat.le_mul_of_pos_left _ hN0)))) (fun a ha b _=>(hW a ha).2.2.2.2 b) (fun a ha=>(hW a ha).2.2.2.1) ⟨fun a=>a,ρ,fun a ha=>ha,fun a ha=>(hW a ha).1,?_⟩;rw[zBJ fun a ha b hb' hab=>(hW a ha).2.2.1 _ (hρ a b hab hb')];exact zF2 fun i hi=>(hW i hi).2.1
theorem zO3{R C k m:Nat}{A K S:Nat->Nat->Int}(hK:HB C k K (zE1 C R (trF A)))(hS:HB C m S (zE1 C k (trF K))):HB C m S (zBn R C A):=hS.of (zOG hK)
theorem zBn.self{R C a:Nat}{A:Nat->Nat->Int}(ha:a<R):zBn R C A (A a):=fun _ hy=>hy a ha
theorem zBn.same{R R' C:Nat}{A B:Nat->Nat->Int}(h1:∀a,a<R->zBn R' C B (A a))(h2:∀a,a<R'->zBn R C A (B a))(x:Nat->Int):zBn R C A x↔zBn R' C B x:=
 ⟨fun h y hy=>h y fun a ha=>h1 a ha y hy,fun h y hy=>h y fun a ha=>h2 a ha y hy⟩
theorem zBn.of_span{R C m:Nat}{A G:Nat->Nat->Int}(h:∀a,a<m->zBn R C A (G a)){x:Nat->Int}(hx:jK m C G x):zBn R C A x:=fun y hy=>by
 obtain⟨z,hz⟩:=hx;have e:(zI C fun b=>x b*y b)=zI C fun b=>zI m (fun s=>z s*G s b)*y b:=zD fun b hb=>by rw[hz b hb]
 rw[e,zAe];exact yC fun s hs=>by rw[show(zI C fun t=>G s t*y t)=0 from h s hs y hy,Int.mul_zero]
theorem HB.sat{R C m:Nat}{A S:Nat->Nat->Int}(h:HB C m S (zBn R C A))(x:Nat->Int):zBn m C S x↔zBn R C A x:=
 zBn.same (fun a ha=>(h.iff _).2 (jK.row S ha)) (fun a ha=>zBn.of_span (fun t ht=>zBn.self ht) ((h.iff _).1 (zBn.self ha))) x
theorem zNn{n C:Nat}(A:Nat->Nat->Int):∀a,a<n->∀b,b<C->A a b=zI n fun t=>idf a t*A t b:=fun a ha b _=>by
 rw[qU ha (fun i _ hne=>by rw[show idf a i=0 from if_neg (fun e=>hne e.symm),Int.zero_mul]),show idf a a=1 from if_pos rfl,Int.one_mul]
theorem zBC.le{k R C:Nat}{A:Nat->Nat->Int}(h:zBC k R C A):k<=R:=zDb (zNn (n:=R) (C:=C) A) h
theorem zLG{R C m h:Nat}{A S:Nat->Nat->Int}(hS:HB C m S (zBn R C A))(hm4:m<=4)(h1:1<=h)(hA:leM h R C A)(hm:zBC m R C A):leM (24*(8*h)^4) m C S:=
 hS.bound hm4 h1 hA (fun a ha=>zBn.self ha) hm
structure zJm(R C:Nat)(A:Nat->Nat->Int):Prop where
 sat:∀x,zBn R C A x->jK R C A x
 full:zBC R R C A
theorem zMO{n:Nat}{f:Nat->Int}(hp:∀i,i<n->0<f i)(h:yY n f∣1):∀i,i<n->f i=1:=by
 induction n with
 |zero=>intro i hi;omega
 | succ n ih=>
  have h2:yY n f*f n∣1:=h;have hn:f n∣1:=Int.dvd_trans ⟨yY n f,Int.mul_comm _ _⟩ h2;have hm:yY n f∣1:=Int.dvd_trans ⟨f n,rfl⟩ h2;intro i hi;by_cases e:i=n
  ·rw[e]
   exact Int.eq_one_of_dvd_one (Int.le_of_lt (hp n oM)) hn
  ·exact ih (fun i hi=>hp i oM) hm i oM
theorem zDl{n R r:Nat}{c:Nat->Nat}{H:Nat->Nat->Int}(hH:Hnf R n r c H)(hr:r=R):∀k,k<R->c k=k:=by
 subst hr;have h1:∀d k,k+d+1=r->c k+d<r:=by
  intro d;induction d with
  |zero=>intro k hk;exact hH.ech.lt k oM
  |succ d ih=>
   intro k hk;have h1:=ih (k+1) oM;have h2:=hH.ech.inc k (k+1) oM oM;omega
 have h2:∀k,k<r->k<=c k:=by
  intro k;induction k with
  |zero=>intro _;omega
  |succ k ih=>
   intro hk;have h1:=ih oM;have h2:=hH.ech.inc k (k+1) oM hk;omega
 intro k hk;have a:=h1 (r-1-k) k oM;have b:=h2 k hk;omega
theorem zIO{R C r:Nat}{c:Nat->Nat}{A H U V:Nat->Nat->Int}(h:jI C R r c (trF A) H U V):∀a,a<R->∀b,b<C->A a b=zI C fun t=>V b t*H t a:=fun a ha b hb=>h.back b hb a ha
theorem zJm.ones{R C r:Nat}{c:Nat->Nat}{A H U V:Nat->Nat->Int}(hP:zJm R C A)(h:jI C R r c (trF A) H U V):R<=C/\∀i,i<R->H i i=1:=by
 have hr:r=R:=by
  have h1:=h.lat.rank hP.full.tr;have h2:r<=R:=by
   exact zBC.le (A:=A) h.lat.min1.tr
  omega
 subst hr;have hRC:r<=C:=h.hnf.le;have hc:=zDl h.hnf rfl;have hpos:∀i,i<r->0<H i i:=fun i hi=>by have:=h.hnf.ech.pos i hi;rwa[hc i hi]at this
 have hup:∀a,a<r->∀b,b<r->b<a->H a b=0:=fun a ha b hb hab=>h.hnf.ech.zero a ha b (by rw[hc a ha];exact hab)
 have hdH:det r H≠0:=by rw[zCv hup];exact zF2 fun i hi=>by have:=hpos i hi;omega
 have hA:∀a,a<r->∀b,b<C->A a b=zI r fun t=>V b t*H t a:=fun a ha b hb=>by
  rw[zIO h a ha b hb];exact zBB hRC fun t h1 h2=>by rw[h.hnf.zero t h1 h2 a ha,Int.mul_zero]
 refine⟨hRC,zMO hpos ?_⟩;rw[<-zCv hup];have hsat:∀t,t<r->zBn r C A fun b=>V b t:=fun t ht y hy=>by
  refine zM5 (w:=fun t=>zI C fun b=>V b t*y b) hdH (fun a ha=>?_) t ht;have e:(zI r fun t=>(zI C fun b=>V b t*y b)*H t a)=zI C fun b=>y b*zI r fun t=>V b t*H t a:=by
   rw[<-zAe];exact zD fun t _=>by congr 1;exact zD fun b _=>Int.mul_comm _ _
  rw[e,<-hy a ha];exact zD fun b hb=>by rw[hA a ha b hb,Int.mul_comm]
 obtain⟨Y,hY⟩:=zAr (F:=fun t b=>V b t) (G:=A) (p:=r) (q:=r) (C:=C) fun t ht=>hP.sat _ (hsat t ht)
 have hI:∀t,t<r->∀s,s<r->(zI r fun a=>Y t a*H s a)=idf t s:=fun t ht s hs=>by
  have e1:∀b,b<C->(zI r fun q=>(zI r fun a=>Y t a*H q a)*V b q)=V b t:=fun b hb=>by
   rw[hY t ht b hb,zAe];exact zD fun a ha=>by rw[hA a ha b hb];congr 1;exact zD fun q _=>Int.mul_comm _ _
  have e2:(zI C fun b=>U s b*(zI r fun q=>(zI r fun a=>Y t a*H q a)*V b q))=zI C fun b=>U s b*V b t:=zD fun b hb=>by rw[e1 b hb]
  rw[h.inv s oM t oM]at e2;have e3:(zI C fun b=>U s b*(zI r fun q=>(zI r fun a=>Y t a*H q a)*V b q))=zI r fun q=>(zI r fun a=>Y t a*H q a)*idf s q:=by
   have:(zI C fun b=>U s b*(zI r fun q=>(zI r fun a=>Y t a*H q a)*V b q))=zI C fun b=>zI r fun q=>(zI r fun a=>Y t a*H q a)*(U s b*V b q):=zD fun b _=>by
    rw[<-zY];exact zD fun q _=>Int.mul_left_comm _ _ _
   rw[this,yB];exact zD fun q hq=>by rw[zY,h.inv s oM q oM]
  rw[e3,qU hs (fun q _ hne=>by rw[show idf s q=0 from if_neg (fun e=>hne e.symm),Int.mul_zero]),show idf s s=1 from if_pos rfl,Int.mul_one]at e2;rw[e2];unfold idf;by_cases e:s=t
  ·rw[if_pos e,if_pos e.symm]
  ·rw[if_neg e,if_neg (fun e2=>e e2.symm)]
 have h1:det r H∣det r fun t s=>zI r fun a=>Y t a*H s a:=jA (P:=Y) (F:=fun a s=>H s a) fun σ hσ=>by
  have:=zCu (A:=H) (fun b=>b) σ (fun a ha=>ha) hσ;show det r H∣det r (trp fun a b=>H a (σ b));rw[jM];exact this
 rw[qS (G:=idf) hI,zFk]at h1;exact h1
theorem zKm{R C r:Nat}{c:Nat->Nat}{A H U V:Nat->Nat->Int}(h:jI C R r c (trF A) H U V)(hRC:R<=C)(h1:∀i,i<R->H i i=1):∀a,a<R->∀b,b<C->A a b=V b a:=by
 have hr:r=R:=by
  have h2:r<=R:=zBC.le (A:=A) h.lat.min1.tr;rcases Nat.lt_or_ge r R with h3|h3
  ·have:=h.hnf.zero r (xgf _) oM r h3
   rw[h1 r h3]at this;omega
  ·omega
 subst hr;have hc:=zDl h.hnf rfl;intro a ha b hb;rw[zIO h a ha b hb,qU (c:=a) oM (fun t ht hne=>?_),h1 a ha,Int.mul_one];rcases Nat.lt_or_ge t r with htr|htr
 ·have:H t a=0:=by
   rcases Nat.lt_or_ge a t with h2|h2
   ·exact h.hnf.ech.zero t htr a (by rw[hc t htr];exact h2)
   ·have:=h.hnf.red t a oM ha trivial
    rw[hc a ha,h1 a ha]at this;omega
  rw[this,Int.mul_zero]
 ·rw[h.hnf.zero t htr ht a ha,Int.mul_zero]
theorem zHi{R C:Nat}{A Q P:Nat->Nat->Int}(hRC:R<=C)(h:∀a,a<C->∀b,b<C->zI C (fun t=>Q a t*P t b)=idf a b)(hA:∀a,a<R->∀b,b<C->A a b=Q a b):zJm R C A:=by
 have hinv:=zEV h;refine⟨fun x hx=>?_,?_⟩
 ·have hz:∀t,R<=t->t<C->(zI C fun s=>x s*P s t)=0:=fun t h1 h2=>hx (fun s=>P s t) fun a ha=>by
   rw[show(zI C fun b=>A a b*P b t)=zI C fun b=>Q a b*P b t from zD fun b hb=>by rw[hA a ha b hb],h a oM t h2];exact if_neg oM
  refine⟨fun t=>zI C fun s=>x s*P s t,fun b hb=>?_⟩;have e1:(zI C fun t=>(zI C fun s=>x s*P s t)*Q t b)=x b:=by
   rw[zAe,qU hb (fun s hs hne=>by rw[hinv s hs b hb,show idf s b=0 from if_neg hne,Int.mul_zero]),hinv b hb b hb,show idf b b=1 from if_pos rfl,Int.mul_one]
  rw[<-e1,zBB hRC (fun t h1 h2=>by rw[hz t h1 h2,Int.zero_mul])];exact zD fun t ht=>by rw[hA t ht b hb]
 ·refine Classical.byContradiction fun hn=>?_
  have h2:(0:Int)∣det R fun a b=>zI C fun t=>A a t*P t b:=zA6 (F:=A) (Q:=P) fun τ hτ=>by
   have:det R (fun a b=>A a (τ b))=0:=Classical.byContradiction fun h0=>hn ⟨fun a=>a,τ,fun a ha=>ha,hτ,h0⟩
   rw[this];exact Int.dvd_refl 0
  rw[qS (G:=idf) fun a ha b hb=>by
   rw[<-h a oM b oM];exact zD fun t ht=>by rw[hA a ha t ht],zFk]at h2
  have:=Int.zero_dvd.1 h2;omega
theorem zOJ{n:Nat}{Q P:Nat->Nat->Int}(h:∀a,a<n->∀b,b<n->zI n (fun t=>P a t*Q t b)=idf a b):zCX n n n (fun k=>k) Q idf:=by
 refine⟨⟨xgf _,⟨fun k hk=>hk,fun k hk=>by rw[show idf k k=1 from if_pos rfl];omega,fun k hk t ht=>if_neg oM,fun k l hkl hl=>hkl⟩,fun i j hij hj _=>?_,fun a h1 h2=>by omega⟩,⟨Q,fun a ha b hb=>?_⟩,⟨P,fun a ha b hb=>(h a ha b hb).symm⟩⟩
 ·rw[show idf i j=0 from if_neg oM,show idf j j=1 from if_pos rfl]
  omega
 ·rw[qU hb (fun i _ hne=>by rw[show idf i b=0 from if_neg hne,Int.mul_zero]),show idf b b=1 from if_pos rfl,Int.mul_one]
end Go.Proofs.YtgnmdddaiefooaaGreat
