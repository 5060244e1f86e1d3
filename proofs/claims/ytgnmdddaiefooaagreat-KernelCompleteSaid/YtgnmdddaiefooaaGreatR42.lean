/- smith's divide (the mirror): relations, bounds, and the chain of invariants. Plain Lean. Invariants and minors; smith's run on small matrices ends within bounds. Plain Lean. smith.Invariants. smith.inverses and smith.Check where everything holds. smith.Check where everything holds; the zero struct. torsionref13.Same. The two definitions of a Smith form agree. The fixed examples of torsionlaw13.sanity: Form and Invariants at them. smith.Invariants and smith.Form of small matrices, with what they yield. torsionlaw13.sanity. -/
import Derived.Test.YtgnmdddaiefooaaGreatR14
import Derived.Test.YtgnmdddaiefooaaGreatR16
import Derived.Test.YtgnmdddaiefooaaGreatR23
import Derived.Test.YtgnmdddaiefooaaGreatR28
import Derived.Test.YtgnmdddaiefooaaGreatR31
import Derived.Test.YtgnmdddaiefooaaGreatR41
set_option linter.unusedVariables false
set_option linter.unusedSimpArgs false
set_option linter.unusedSectionVars false
set_option maxHeartbeats 16000000
set_option maxRecDepth 100000
namespace Go.Proofs.YtgnmdddaiefooaaGreat
open Go.RowKit
theorem zQU:∀m n:Nat,∃s t:Int,s*(m:Int)+t*(n:Int)=((Nat.gcd m n:Nat):Int):=by
 intro m;induction m using Nat.strongRecOn with
 | ind m ih=>
  intro n;rcases Nat.eq_zero_or_pos m with h|h
  ·subst h
   exact⟨0,1,by rw[Nat.gcd_zero_left];omega⟩
  ·obtain⟨s,t,e⟩:=ih (n%m) (Nat.mod_lt _ h) m
   refine⟨t-s*((n/m:Nat):Int),s,?_⟩;rw[Nat.gcd_rec,<-e];have h2:(n:Int)=(m:Int)*((n/m:Nat):Int)+((n%m:Nat):Int):=by
    have:=Nat.div_add_mod n m;exact_mod_cast this.symm
   generalize ((n/m:Nat):Int)=q at*;generalize ((n%m:Nat):Int)=r at*;rw[h2];grind
theorem zQT{x y:Int}(hx:0<=x)(hy:0<=y):∃s t:Int,s*x+t*y=((Int.gcd x y:Nat):Int):=by
 obtain⟨s,t,e⟩:=zQU x.natAbs y.natAbs;refine⟨s,t,?_⟩;rw[show((x.natAbs:Nat):Int)=x by omega,show((y.natAbs:Nat):Int)=y by omega]at e;exact e
def bl(f:Nat->Int)(i j:Nat)(m0 m1 m2 m3:Int)(a:Nat):Int:=if a=i then m0*f i+m1*f j else if a=j then m2*f i+m3*f j else f a
theorem zEJ(n:Nat)(F:Nat->Nat->Int)(i j:Nat)(m0 m1 m2 m3:Int)(X:Nat->Int)(a:Nat):
  zI n (fun t=>zZ F i j m0 m1 m2 m3 a t*X t)=bl (fun a=>zI n fun t=>F a t*X t) i j m0 m1 m2 m3 a:=by
 unfold bl zZ;split
 ·rw[<-zY,<-zY,<-jF]
  exact zD fun t ht=>by rw[Int.add_mul,Int.mul_assoc,Int.mul_assoc]
 ·split
  ·rw[<-zY,<-zY,<-jF]
   exact zD fun t ht=>by rw[Int.add_mul,Int.mul_assoc,Int.mul_assoc]
  ·rfl
theorem zFG(n:Nat)(F:Nat->Nat->Int)(i j:Nat)(m0 m1 m2 m3:Int)(X:Nat->Int)(a:Nat):
  zI n (fun t=>X t*zZ F i j m0 m1 m2 m3 a t)=bl (fun a=>zI n fun t=>X t*F a t) i j m0 m1 m2 m3 a:=by
 rw[zD (g:=fun t=>zZ F i j m0 m1 m2 m3 a t*X t) (fun t ht=>Int.mul_comm _ _),zEJ];unfold bl;dsimp only;rw[zD (g:=fun t=>F i t*X t) (f:=fun t=>X t*F i t) (fun t ht=>Int.mul_comm _ _),zD (g:=fun t=>F j t*X t) (f:=fun t=>X t*F j t) (fun t ht=>Int.mul_comm _ _),zD (g:=fun t=>F a t*X t) (f:=fun t=>X t*F a t) (fun t ht=>Int.mul_comm _ _)]
theorem zGR{n i j:Nat}{P Q:Nat->Nat->Int}{m0 m1 m2 m3 n0 n1 n2 n3:Int}(hi:i<n)(hj:j<n)(hij:i≠j)(h:∀a,a<n->∀b,b<n->dot n P Q a b=idf a b)
  (e0:m0*n0+m1*n1=1) (e1:m0*n2+m1*n3=0) (e2:m2*n0+m3*n1=0) (e3:m2*n2+m3*n3=1):∀a,a<n->∀b,b<n->dot n (zZ P i j m0 m1 m2 m3) (zZ Q i j n0 n1 n2 n3) a b=idf a b:=by
 intro a ha b hb;unfold dot;rw[zEJ];have e:∀a,a<n->zI n (fun t=>P a t*zZ Q i j n0 n1 n2 n3 b t)=bl (fun b=>idf a b) i j n0 n1 n2 n3 b:=fun a ha=>by
  rw[zFG];have g:∀b,b<n->zI n (fun t=>P a t*Q b t)=idf a b:=fun b hb=>h a ha b hb
  unfold bl;dsimp only;rw[g i hi,g j hj,g b hb]
 have hji:¬ j=i:=fun h=>hij h.symm
 unfold bl;dsimp only;rw[e i hi,e j hj,e a ha];unfold bl idf;by_cases a1:a=i
 ·by_cases b1:b=i
  ·subst a1;subst b1;simp[hij,hji];omega
  ·by_cases b2:b=j
   ·subst a1;subst b2;simp[hij,hji];omega
   ·have b3:¬ i=b:=fun h=>b1 h.symm
    have b4:¬ j=b:=fun h=>b2 h.symm
    subst a1;simp[b1,b2,b3,b4]
 ·by_cases a2:a=j
  ·by_cases b1:b=i
   ·subst a2;subst b1;simp[hij,hji];omega
   ·by_cases b2:b=j
    ·subst a2;subst b2;simp[hij,hji];omega
    ·have b3:¬ i=b:=fun h=>b1 h.symm
     have b4:¬ j=b:=fun h=>b2 h.symm
     subst a2;simp[b1,b2,b3,b4,hji]
  ·by_cases b1:b=i
   ·subst b1;simp[a1,a2]
   ·by_cases b2:b=j
    ·subst b2;simp[a1,a2,hji]
    ·simp[a1,a2,b1,b2]
theorem zJb{n i j:Nat}{f g:Nat->Int}(hi:i<n)(hj:j<n)(hij:i≠j)(h:∀t,t<n->t≠i->t≠j->f t=g t)(h1:f i+f j=g i+g j):zI n f=zI n g:=
 zEu (d:=f i-g i) hi hj hij h oM oM
theorem zGQ{n i j:Nat}{P Q:Nat->Nat->Int}{m0 m1 m2 m3 n0 n1 n2 n3:Int}(hi:i<n)(hj:j<n)(hij:i≠j)
  (e0:n0*m0+n2*m2=1) (e1:n0*m1+n2*m3=0) (e2:n1*m0+n3*m2=0) (e3:n1*m1+n3*m3=1) (a b:Nat):cod n (zZ Q i j n0 n1 n2 n3) (zZ P i j m0 m1 m2 m3) a b=cod n Q P a b:=by
 refine zJb hi hj hij (fun t ht h1 h2=>?_) ?_
 ·unfold zZ;rw[if_neg h1,if_neg h1,if_neg h2,if_neg h2]
 ·unfold zZ
  have hji:¬ j=i:=fun h=>hij h.symm
  simp only[if_true,if_neg hji];generalize P i b=p;generalize P j b=q;generalize Q i a=r;generalize Q j a=s;have:(n0*r+n1*s)*(m0*p+m1*q)+(n2*r+n3*s)*(m2*p+m3*q)=r*p*(n0*m0+n2*m2)+r*q*(n0*m1+n2*m3)+s*p*(n1*m0+n3*m2)+s*q*(n1*m1+n3*m3):=by grind
  rw[this,e0,e1,e2,e3];omega
theorem zLv{R C i j:Nat}{A:Nat->Nat->Int}{z:W5}{s t:Int}(h:Rel R C A z)(hd:zIw R C z.s)(hij:i<j)(hj:j<min R C)(hg:Int.gcd (z.s i i) (z.s j j)≠0)(hb:s*z.s i i+t*z.s j j=((Int.gcd (z.s i i) (z.s j j):Nat):Int)):Rel R C A (zQD z i j s t):=by
 obtain⟨u0,hu0⟩:(((Int.gcd (z.s i i) (z.s j j):Nat):Int))∣z.s i i:=Int.gcd_dvd_left ..;obtain⟨v,hv⟩:(((Int.gcd (z.s i i) (z.s j j):Nat):Int))∣z.s j j:=Int.gcd_dvd_right ..;obtain⟨g,hgg⟩:∃g:Int,((Int.gcd (z.s i i) (z.s j j):Nat):Int)=g:=⟨_,rfl⟩;have hg0:g≠0:=by rw[<-hgg];omega
 rw[hgg]at hb hu0 hv;have q1:z.s i i/g=u0:=by rw[hu0];exact Int.mul_ediv_cancel_left _ hg0
 have q2:z.s j j/g=v:=by rw[hv];exact Int.mul_ediv_cancel_left _ hg0
 have hstuv:s*u0+t*v=1:=by
  have:g*(s*u0+t*v)=g*1:=by rw[hu0,hv]at hb;grind
  exact Int.eq_of_mul_eq_mul_left hg0 this
 have hi':i<R/\i<C/\j<R/\j<C:=by omega
 obtain⟨hiR,hiC,hjR,hjC⟩:=hi';have hne:i≠j:=by omega
 have hji:¬ j=i:=by omega
 refine⟨fun a ha b hb'=>?_,?_,fun a ha b hb'=>?_,?_,fun a ha b hb'=>?_⟩
 ·show zJn z.s i j a b=zI R fun s'=>zZ z.u i j s t (-(z.s j j/_)) (z.s i i/_) a s'*zI C fun t'=>A s' t'*zZ z.w i j 1 1 (-(t*(z.s j j/_))) (1-t*(z.s j j/_)) b t'
  unfold zJn;rw[hgg,q1,q2];have e1:∀s',zI C (fun t'=>A s' t'*zZ z.w i j 1 1 (-(t*v)) (1-t*v) b t')=bl (fun b=>zI C fun t'=>A s' t'*z.w b t') i j 1 1 (-(t*v)) (1-t*v) b:=fun s'=>zFG _ _ _ _ _ _ _ _ _ _
  simp only[e1];rw[zEJ];have e2:∀a,a<R->zI R (fun s'=>z.u a s'*bl (fun b=>zI C fun t'=>A s' t'*z.w b t') i j 1 1 (-(t*v)) (1-t*v) b)=bl (fun b=>z.s a b) i j 1 1 (-(t*v)) (1-t*v) b:=fun a ha=>by
   have g1:∀b,b<C->z.s a b=zI R fun s=>z.u a s*zI C fun t=>A s t*z.w b t:=fun b hb=>h.s a ha b hb
   unfold bl;dsimp only;split
   ·rw[g1 i hiC,g1 j hjC,<-zY,<-zY,<-jF]
    exact zD fun s' _=>by rw[Int.mul_add,Int.mul_left_comm (z.u a s'),Int.mul_left_comm (z.u a s')]
   ·split
    ·rw[g1 i hiC,g1 j hjC,<-zY,<-zY,<-jF]
     exact zD fun s' _=>by rw[Int.mul_add,Int.mul_left_comm (z.u a s'),Int.mul_left_comm (z.u a s')]
    ·rw[g1 b hb']
  have hout:bl (fun a=>zI R fun s'=>z.u a s'*bl (fun b=>zI C fun t'=>A s' t'*z.w b t') i j 1 1 (-(t*v)) (1-t*v) b) i j s t (-v) u0 a=bl (fun a=>bl (fun b=>z.s a b) i j 1 1 (-(t*v)) (1-t*v) b) i j s t (-v) u0 a:=by
   unfold bl at*;dsimp only at*;rw[e2 i hiR,e2 j hjR,e2 a ha]
  rw[hout];have zij:z.s i j=0:=hd i hiR j hjC hne;have zji:z.s j i=0:=hd j hjR i hiC hji;unfold bl;dsimp only;by_cases a1:a=i
  ·subst a1
   by_cases b1:b=a
   ·subst b1
    rw[if_neg oM,if_pos ⟨rfl,rfl⟩,if_pos rfl,if_pos rfl,if_pos rfl,zij,zji,<-hb];grind
   ·by_cases b2:b=j
    ·subst b2
     rw[if_neg oM,if_neg oM,if_pos rfl,if_neg hji,if_neg hji,if_pos rfl,if_pos rfl,zji,zij];have:s*(-(t*v)*z.s a a+(1-t*v)*0)+t*(-(t*v)*0+(1-t*v)*z.s b b)=-(t*v)*(s*z.s a a+t*z.s b b)+t*z.s b b:=by grind
     rw[this,hb,hv];grind
    ·have h1:z.s a b=0:=hd a ha b hb' (fun e=>b1 e.symm)
     have h2:z.s j b=0:=hd j hjR b hb' (fun e=>b2 e.symm);rw[if_neg oM,if_neg oM,if_pos rfl,if_neg b1,if_neg b2,if_neg b1,if_neg b2,h1,h2];omega
  ·by_cases a2:a=j
   ·subst a2
    by_cases b1:b=i
    ·subst b1
     rw[if_neg oM,if_neg oM,if_neg a1,if_pos rfl,if_pos rfl,if_pos rfl,zij,zji];have:-v*(1*z.s b b+1*0)+u0*(1*0+1*z.s a a)=u0*z.s a a-v*z.s b b:=by grind
     rw[this,hu0,hv];grind
    ·by_cases b2:b=a
     ·subst b2
      rw[if_pos ⟨rfl,rfl⟩,if_neg a1,if_pos rfl,if_neg b1,if_neg b1,if_pos rfl,if_pos rfl,zij,zji];have:-v*(-(t*v)*z.s i i+(1-t*v)*0)+u0*(-(t*v)*0+(1-t*v)*z.s b b)=t*v*v*z.s i i+(1-t*v)*u0*z.s b b:=by grind
      rw[this,hu0,hv];grind
     ·have h1:z.s i b=0:=hd i hiR b hb' (fun e=>b1 e.symm)
      have h2:z.s a b=0:=hd a ha b hb' (fun e=>b2 e.symm);rw[if_neg oM,if_neg oM,if_neg a1,if_pos rfl,if_neg b1,if_neg b2,if_neg b1,if_neg b2,h1,h2];omega
   ·rw[if_neg oM,if_neg oM,if_neg a1,if_neg a2]
    by_cases b1:b=i
    ·subst b1
     rw[if_pos rfl,hd a ha b hb' a1,hd a ha j hjC a2];omega
    ·by_cases b2:b=j
     ·subst b2
      rw[if_neg b1,if_pos rfl,hd a ha b hb' a2,hd a ha i hiC a1];omega
     ·rw[if_neg b1,if_neg b2]
 ·show ∀a,a<R->∀b,b<R->dot R (zZ z.u i j s t (-(z.s j j/_)) (z.s i i/_)) (zZ z.v i j (z.s i i/_) (z.s j j/_) (-t) s) a b=idf a b
  rw[hgg,q1,q2];exact zGR hiR hjR hne h.uv hstuv (by grind) (by grind) (by grind)
 ·show cod R (zZ z.v i j (z.s i i/_) (z.s j j/_) (-t) s) (zZ z.u i j s t (-(z.s j j/_)) (z.s i i/_)) a b=idf a b
  rw[hgg,q1,q2,zGQ hiR hjR hne (by grind) (by grind) (by grind) (by grind)];exact h.vu a ha b hb'
 ·show ∀a,a<C->∀b,b<C->dot C (zZ z.w i j 1 1 (-(t*(z.s j j/_))) (1-t*(z.s j j/_))) (zZ z.x i j (1-t*(z.s j j/_)) (t*(z.s j j/_)) (-1) 1) a b=idf a b
  rw[hgg,q2];exact zGR hiC hjC hne h.wx (by grind) (by grind) (by grind) (by grind)
 ·show cod C (zZ z.x i j (1-t*(z.s j j/_)) (t*(z.s j j/_)) (-1) 1) (zZ z.w i j 1 1 (-(t*(z.s j j/_))) (1-t*(z.s j j/_))) a b=idf a b
  rw[hgg,q2,zGQ hiC hjC hne (by grind) (by grind) (by grind) (by grind)];exact h.xw a ha b hb'
structure Dg(R C r:Nat)(F:Nat->Nat->Int):Prop where
 off:zIw R C F
 pos:∀i,i<r->0<F i i
 zero:∀i,r<=i->i<min R C->F i i=0
 le:r<=min R C
theorem Low.dg{R C r:Nat}{F:Nat->Nat->Int}(h:Low R C r F)(hd:zIw R C F):Dg R C r F:=
 ⟨hd,fun i hi=>h.hnf.ech.pos i hi,fun i h1 h2=>h.row i h1 oM i oM,by have:=h.le;have:=h.hnf.le;omega⟩
theorem Dg.both{R C r i j:Nat}{F:Nat->Nat->Int}(h:Dg R C r F)(hij:i<j)(hj:j<min R C)(hn:¬ F i i∣F j j):j<r/\0<F i i/\0<F j j:=by
 have hjr:j<r:=by
  rcases Nat.lt_or_ge j r with h1|h1
  ·exact h1
  ·rw[h.zero j h1 hj]at hn
   exact absurd (Int.dvd_zero _) hn
 exact⟨hjr,h.pos i oM,h.pos j hjr⟩
theorem zNV{F:Nat->Nat->Int}{i j:Nat}(hij:i<j):zJn F i j i i=((Int.gcd (F i i) (F j j):Nat):Int):=by
 unfold zJn;rw[if_neg oM,if_pos ⟨rfl,rfl⟩]
theorem zNW{F:Nat->Nat->Int}{i j:Nat}:zJn F i j j j=F i i*(F j j/((Int.gcd (F i i) (F j j):Nat):Int)):=by
 unfold zJn;rw[if_pos ⟨rfl,rfl⟩]
theorem zHM{F:Nat->Nat->Int}{i j a b:Nat}(h1:¬ (a=j/\b=j))(h2:¬ (a=i/\b=i)):zJn F i j a b=F a b:=by
 unfold zJn;rw[if_neg h1,if_neg h2]
theorem zKK{x y:Int}(hx:0<x)(hy:0<y):∃g u v:Int,((Int.gcd x y:Nat):Int)=g/\0<g/\x=g*u/\y=g*v/\0<u/\0<v/\x/g=u/\y/g=v:=by
 obtain⟨u,hu⟩:(((Int.gcd x y:Nat):Int))∣x:=Int.gcd_dvd_left ..;obtain⟨v,hv⟩:(((Int.gcd x y:Nat):Int))∣y:=Int.gcd_dvd_right ..;have h0:0<((Int.gcd x y:Nat):Int):=by
  have:Int.gcd x y≠0:=fun h=>by rw[Int.gcd_eq_zero_iff]at h;omega
  omega
 generalize hg:((Int.gcd x y:Nat):Int)=g at*;have hu0:0<u:=by
  rcases Int.lt_or_le 0 u with h|h
  ·exact h
  ·have:=Int.mul_nonpos_of_nonneg_of_nonpos (Int.le_of_lt h0) h;omega
 have hv0:0<v:=by
  rcases Int.lt_or_le 0 v with h|h
  ·exact h
  ·have:=Int.mul_nonpos_of_nonneg_of_nonpos (Int.le_of_lt h0) h;omega
 exact⟨g,u,v,rfl,h0,hu,hv,hu0,hv0,by rw[hu];exact Int.mul_ediv_cancel_left _ oM,by rw[hv];exact Int.mul_ediv_cancel_left _ oM⟩
theorem Dg.step{R C r i j:Nat}{F:Nat->Nat->Int}(h:Dg R C r F)(hij:i<j)(hj:j<min R C)(hn:¬ F i i∣F j j):Dg R C r (zJn F i j):=by
 obtain⟨h1,h2,h3⟩:=h.both hij hj hn;obtain⟨g,u,v,e1,e2,e3,e4,e5,e6,e7,e8⟩:=zKK h2 h3;refine⟨fun a ha b hb hab=>?_,fun k hk=>?_,fun k h4 h5=>?_,h.le⟩
 ·rw[zHM oM oM];exact h.off a ha b hb hab
 ·by_cases k1:k=i
  ·rw[k1,zNV hij,e1];exact e2
  ·by_cases k2:k=j
   ·rw[k2,zNW,e1,e8];exact Int.mul_pos h2 e6
   ·rw[zHM oM oM];exact h.pos k hk
 ·rw[zHM oM oM];exact h.zero k h4 h5
theorem zDJ{x y:Int}{X Y:Nat}(hx:x.natAbs<=X)(hy:y.natAbs<=Y):(x*y).natAbs<=X*Y:=by
 rw[Int.natAbs_mul];exact Nat.mul_le_mul hx hy
structure zQl(M T R C Cu Cw r e:Nat)(y0 y:W5):Prop where
 dg:Dg R C r y.s
 muh:mu r y.s*2^e<=mu r y0.s
 prod:yY r (fun k=>y.s k k)=yY r (fun k=>y0.s k k)
 u:leM (M*(4*T*T)^e) R Cu y.u
 v:leM (M*(4*T*T)^e) R Cu y.v
 w:leM (M*(4*T*T)^e) C Cw y.w
 x:leM (M*(4*T*T)^e) C Cw y.x
theorem Dg.small{R C r T:Nat}{F:Nat->Nat->Int}(h:Dg R C r F)(hT:(yY r (fun k=>F k k)).natAbs<=T):leM T R C F:=by
 intro a ha b hb;by_cases e:a=b
 ·subst e
  rcases Nat.lt_or_ge a r with h1|h1
  ·have h2:=zOA h.pos h1
   have h3:=h.pos a h1;omega
  ·rw[h.zero a h1 oM];omega
 ·rw[h.off a ha b hb e];omega
def Chn(i n:Nat)(F:Nat->Nat->Int):Prop:=∀a b,i<=a->a<b->b<n->F a a∣F b b
def zLm(R C r:Nat)(A F:Nat->Nat->Int):Prop:=Dg R C r F/\∃u v w x,Rel R C A ⟨F,u,v,w,x⟩
theorem zLm.step{R C r i j:Nat}{A F:Nat->Nat->Int}(h:zLm R C r A F)(hij:i<j)(hj:j<min R C)(hn:¬ F i i∣F j j):zLm R C r A (zJn F i j):=by
 obtain⟨hd,u,v,w,x,hr⟩:=h;obtain⟨b1,b2,b3⟩:=hd.both hij hj hn;obtain⟨s,t,e⟩:=zQT (x:=F i i) (y:=F j j) oM oM;have:=zLv hr hd.off hij hj (fun h=>by dsimp only at h;rw[Int.gcd_eq_zero_iff]at h;omega) e;exact⟨hd.step hij hj hn,_,_,_,_,this⟩
theorem zLm.divJ{R C r i:Nat}{A:Nat->Nat->Int}:∀(m j:Nat) (F:Nat->Nat->Int),i<j->j+m<=min R C->zLm R C r A F->zLm R C r A (divJ i m j F):=by
 intro m;induction m with
 |zero=>intro j F _ _ h;exact h
 | succ m ih=>
  intro j F h1 h2 h;unfold Go.Proofs.YtgnmdddaiefooaaGreat.divJ;refine ih (j+1) _ oM oM ?_;split
  ·exact h
  ·rename_i hn
   exact h.step h1 oM hn
theorem zLm.divI{R C r:Nat}{A:Nat->Nat->Int}:∀(m i:Nat) (F:Nat->Nat->Int),i+m<=min R C->zLm R C r A F->zLm R C r A (divI m i F):=by
 intro m;induction m with
 |zero=>intro i F _ h;exact h
 |succ m ih=>
  intro i F h1 h;unfold Go.Proofs.YtgnmdddaiefooaaGreat.divI;exact ih (i+1) _ oM (zLm.divJ m (i+1) F oM oM h)
def zJs(R C k:Nat)(A:Nat->Nat->Int)(g:Int):Prop:=∀σ τ:Nat->Nat,(∀a,a<k->σ a<R)->(∀a,a<k->τ a<C)->g∣det k fun a b=>A (σ a) (τ b)
def Fac(R C:Nat)(F G:Nat->Nat->Int):Prop:=∃P Q:Nat->Nat->Int,∀a,a<R->∀b,b<C->G a b=zI R fun s=>P a s*zI C fun t=>F s t*Q t b
theorem zJs.fac{R C k:Nat}{F G:Nat->Nat->Int}{g:Int}(h:zJs R C k F g)(hf:Fac R C F G):zJs R C k G g:=by
 obtain⟨P,Q,e⟩:=hf;intro σ τ hσ hτ;rw[qS (G:=fun a b=>zI R fun s=>P (σ a) s*zI C fun t=>F s t*Q t (τ b)) fun a ha b hb=>e _ (hσ a ha) _ (hτ b hb)];exact zGa (P:=fun a s=>P (σ a) s) (Q:=fun t b=>Q t (τ b)) h
theorem zJs.tr{R C k:Nat}{F:Nat->Nat->Int}{g:Int}(h:zJs R C k F g):zJs C R k (trF F) g:=fun σ τ hσ hτ=>by
 have:=h τ σ hτ hσ;rw[<-jM]at this;exact this
theorem zMD{P:Nat->Prop}:∀f,P f->∃f,P f/\∀g,P g->f<=g:=by
 intro f;induction f using Nat.strongRecOn with
 | ind f ih=>
  intro hf;by_cases h:∃g,g<f/\P g
  ·obtain⟨g,h1,h2⟩:=h
   exact ih g h1 h2
  ·exact⟨f,hf,fun g hg=>Nat.le_of_not_lt fun hlt=>h ⟨g,hlt,hg⟩⟩
theorem Dg.minors{R C r k:Nat}{F:Nat->Nat->Int}(h:Dg R C r F)(hc:Chn 0 (min R C) F)(hk:k<=min R C):zJs R C k F (yY k fun i=>F i i):=by
 refine fun σ τ hσ hτ=>zDk (R:=R) (C:=C) (fun σ τ hσ hτ hi hj=>?_) σ τ hσ hτ
 by_cases he:∀a,a<k->σ a=τ a
 ·rw[zBJ fun a ha b hb hab=>?_]
  ·refine zKw fun i hik=>?_
   rw[<-he i hik];have h1:=hi.le i hik;have h2:=hσ i hik;have h3:=hτ i hik;rw[<-he i hik]at h3;rcases Nat.lt_or_ge i (σ i)with h4|h4
   ·exact hc i (σ i) (Nat.zero_le _) h4 oM
   ·rw[show σ i=i by omega];exact Int.dvd_refl _
  ·refine h.off _ (hσ a ha) _ (hτ b hb) ?_
   rw[<-he b hb];have:=hi.lt a b hab hb;omega
 ·-- the first place where they differ
  have hex:∃a,(a<k/\σ a≠τ a)/\∀b,b<a->b<k->σ b=τ b:=by
   obtain⟨a,ha⟩:=Classical.not_forall.1 he;obtain⟨ha1,ha2⟩:=Classical.not_imp.1 ha;obtain⟨m,hm1,hm2⟩:=zMD (P:=fun a=>a<k/\σ a≠τ a) a ⟨ha1,ha2⟩;exact⟨m,hm1,fun b hb hbk=>Classical.byContradiction fun hne=>by
    have:=hm2 b ⟨hbk,hne⟩;omega⟩
  obtain⟨a,⟨ha,hne⟩,hbef⟩:=hex;rcases Nat.lt_or_ge (σ a) (τ a)with h1|h1
  ·rw[zAE ha fun b hb=>?_]
   ·exact Int.dvd_zero _
   ·refine h.off _ (hσ a ha) _ (hτ b hb) fun e=>?_
    rcases Nat.lt_trichotomy b a with h2|h2|h2
    ·have:=hi.lt b a h2 ha
     rw[hbef b h2 hb]at this;omega
    ·subst h2;omega
    ·have:=hj.lt a b h2 hb
     omega
  ·rw[zGZ (c:=a) ha fun b hb=>?_]
   ·exact Int.dvd_zero _
   ·refine h.off _ (hσ b hb) _ (hτ a ha) fun e=>?_
    rcases Nat.lt_trichotomy b a with h2|h2|h2
    ·have:=hj.lt b a h2 ha
     rw[<-hbef b h2 hb]at this;omega
    ·subst h2;omega
    ·have:=hi.lt a b h2 hb
     omega
theorem Dg.gen{R C r k:Nat}{F:Nat->Nat->Int}{g:Int}(h:Dg R C r F)(hk:k<=min R C)(hm:zJs R C k F g):g∣yY k fun i=>F i i:=by
 have:=hm (fun a=>a) (fun a=>a) (fun a ha=>by omega) (fun a ha=>by omega);rwa[zBJ fun a ha b hb hab=>h.off a oM b oM oM]at this
structure Inv(R C r:Nat)(A F:Nat->Nat->Int):Prop where
 dg:Dg R C r F
 chn:Chn 0 (min R C) F
 fwd:Fac R C A F
 bwd:Fac R C F A
theorem Inv.minors{R C r k:Nat}{A F:Nat->Nat->Int}(h:Inv R C r A F)(hk:k<=min R C):zJs R C k A (yY k fun i=>F i i):=(h.dg.minors h.chn hk).fac h.bwd
theorem Inv.gen{R C r k:Nat}{A F:Nat->Nat->Int}{g:Int}(h:Inv R C r A F)(hk:k<=min R C)(hm:zJs R C k A g):g∣yY k fun i=>F i i:=h.dg.gen hk (hm.fac h.fwd)
theorem Dg.nonneg{R C r i:Nat}{F:Nat->Nat->Int}(h:Dg R C r F)(hi:i<min R C):0<=F i i:=by
 rcases Nat.lt_or_ge i r with h1|h1
 ·have:=h.pos i h1;omega
 ·rw[h.zero i h1 hi];exact Int.le_refl _
theorem zOY:∃n:Nat,n=549755813888:=⟨_,rfl⟩
noncomputable def EB:Nat:=zOY.choose
theorem zNF:EB=549755813888:=zOY.choose_spec
noncomputable def BB:Nat:=2^EB
def zf:Nat->Nat->Int:=fun _ _=>0
def nzL(l:List Int):List Int:=l.filter (fun z=>decide (z≠0))
theorem zIx{R C n:Nat}{F:Nat->Nat->Int}(h:n<=R)(h2:n<=C):zNU (genM R C F) n=zQ n (fun i=>F i i):=by
 unfold zNU zQ;refine List.map_congr_left fun k hk=>?_
 have hk':=List.mem_range.1 hk;exact qG oM oM




instance (B R C Cu Cw:Nat) (z:W5):Decidable (okW B R C Cu Cw z):=by unfold okW;infer_instance
theorem zOW.same{n:Nat}{z y:W5}(h:zOW n z y)(hd:∀i j,i<j->j<n->z.s i i∣z.s j j):y=z:=by
 induction h with
 |refl=>rfl
 |step y i j s t h1 h2 h3 h4 h5 ih=>
  have e:=ih;subst e;exact absurd (hd i j h2 h3) h4
def zOr(B:Nat)(M:List (List Int)):Bool:=M.all fun r=>r.all fun z=>decide (z.natAbs<B)
def zPG(B:Nat)(X Y:List (List Int))(R m C:Nat):Prop:=∀i,i<R->∀j,j<C->∀k,k<m->(ent X i k).natAbs<B/\(ent Y k j).natAbs<B/\(ent X i k*ent Y k j).natAbs<B/\(zAT X Y k i j).natAbs<B
instance (B:Nat) (X Y:List (List Int)) (R m C:Nat):Decidable (zPG B X Y R m C):=by unfold zPG;infer_instance
theorem zPG.sm{B:Nat}(hB:BSm B){X Y:List (List Int)}{R m C:Nat}(h:zPG B X Y R m C):zCM X Y R m C:=fun i hi j hj k hk=>
 ⟨hB.sm _ (h i hi j hj k hk).1,hB.sm _ (h i hi j hj k hk).2.1,hB.sm _ (h i hi j hj k hk).2.2.1,hB.sm _ (h i hi j hj k hk).2.2.2⟩
theorem zMq:BB^3*16<=B32^zHE:=by
 have e:(B32:Nat)=2^32:=by decide
 have h1:BB^3*16=2^(EB*3+4):=by unfold BB;rw[<-Nat.pow_mul,Nat.pow_add]
 have h2:2^(EB*3+4)<=(2^32)^EB:=by
  rw[<-Nat.pow_mul];exact zDU oM (by rw[zNF];omega)
 rw[h1];refine Nat.le_trans h2 ?_;rw[<-e];exact zAa (by rw[zNF,jB];omega)
theorem zMp:1<=BB:=Nat.pow_pos oM
theorem zPM:2^100<=BB:=zDU oM (by rw[zNF];omega)
theorem zNE{z:Int}(h:z.natAbs<BB^3*16):Smd z:=⟨Nat.lt_of_lt_of_le h zMq⟩
theorem zOT{k n:Nat}(hk:k<=3)(hn:n<=16):BB^k*n<=BB^3*16:=Nat.mul_le_mul (zDU zMp hk) hn
theorem zOU{z:Int}(h:z.natAbs<BB):Smd z:=zNE (Nat.lt_of_lt_of_le h (by have:=zOT (k:=1) (n:=1) oM oM;simpa using this))
theorem Inv.small{R C r h:Nat}{A F:Nat->Nat->Int}(hI:Inv R C r A F)(hR:R<=4)(h1:1<=h)(hA:leM h R C A):(yY r (fun i=>F i i)).natAbs<=24*h^4:=by
 have hr:r<=min R C:=hI.dg.le;have hp:0<yY r (fun i=>F i i):=zEl fun i hi=>hI.dg.pos i hi
 have hm:=hI.minors hr;have hne:∃σ τ:Nat->Nat,(∀a,a<r->σ a<R)/\(∀a,a<r->τ a<C)/\det r (fun a b=>A (σ a) (τ b))≠0:=by
  refine Classical.byContradiction fun hn=>?_
  have:zJs R C r A 0:=fun σ τ hσ hτ=>by
   have:det r (fun a b=>A (σ a) (τ b))=0:=Classical.byContradiction fun h0=>hn ⟨σ,τ,hσ,hτ,h0⟩
   rw[this];exact Int.dvd_refl 0
  have:=Int.zero_dvd.1 (hI.gen hr this);omega
 obtain⟨σ,τ,hσ,hτ,h0⟩:=hne;refine Nat.le_trans (Nat.le_of_dvd oM (Int.natAbs_dvd_natAbs.2 (hm σ τ hσ hτ))) ?_;exact zJ9 (F:=fun a b=>A (σ a) (τ b)) oM h1 fun a ha b hb=>hA _ (hσ a ha) _ (hτ b hb)
theorem Inv.empty(C:Nat)(A:Nat->Nat->Int):Inv 0 C 0 A A:=
 ⟨⟨fun a ha=>by omega,fun i hi=>by omega,fun i _ hi=>by omega,by omega⟩,fun a b _ h1 h2=>by omega,⟨idf,idf,fun a ha=>by omega⟩,⟨idf,idf,fun a ha=>by omega⟩⟩
theorem zNT{R C r:Nat}{F:Nat->Nat->Int}(hd:Dg R C r F)(hc:Chn 0 (min R C) F):zPO R C (genM R C F)=true:=by
 unfold zPO;rw[decide_eq_true (zV R C F).valid,Bool.true_and,Int.toNat_natCast,Int.toNat_natCast,zIx oM oM,Bool.and_eq_true];constructor
 ·have:∀d i,i+d=R->zFH i ((genM R C F).drop i)=true:=by
   intro d;induction d with
   |zero=>
    intro i hi;rw[List.drop_eq_nil_of_le (by rw[(zV R C F).1];omega)];rfl
   |succ d ih=>
    intro i hi;have e1:(genM R C F)[i]?=some (zQ C (F i)):=by simp[genM,zQ,show i<R by omega]
    rw[zBL e1,zHK,ih (i+1) oM];intro t ht hne;rw[zE]at ht;rw[jP (zW ht)];exact hd.off i oM t ht oM
  exact this R 0 oM
 ·have:∀d i (last:Int),i+d=min R C->(i<min R C->last∣F i i)->zDL last ((zQ (min R C) fun i=>F i i).drop i)=true:=by
   intro d;induction d with
   |zero=>
    intro i last hi _;rw[List.drop_eq_nil_of_le (by rw[zE];omega)];rfl
   |succ d ih=>
    intro i last hi hl;rw[zBL (zW oM),zGV (hd.nonneg oM) (hl oM)];exact ih (i+1) _ oM fun h=>hc i (i+1) (Nat.zero_le _) oM h
  exact this (min R C) 0 1 oM fun _=>Int.one_dvd _
theorem nxa{w W W':World}{o:Obj}(h:Below w.heap.size w W)(hb:Below (W.alloc o).heap.size (W.alloc o) W'):Below w.heap.size w W':=nx (h.alloc h.size o) hb
def zIK(ls:List Int):Array Value:=(ls.map (Value.int .i64)).toArray
theorem zE0.new(W:World)(ls:List Int)(hb:(ls.all fun z=>decide (-9223372036854775808<=z/\z<=9223372036854775807))=true)(hl:ls.length<=1000):
  zE0 (W.alloc (.cells (zIK ls) 2)) (.slice (some ⟨W.heap.size,0,none⟩) ls.length ls.length) ls:=by
 refine⟨_,_,_,rfl,rfl,xgf _,by omega,fun z hz=>of_decide_eq_true (List.all_eq_true.1 hb z hz),fun _=>⟨W.heap.size,_,rfl,heap_alloc_new W _,fun k z hk=>?_⟩⟩;simp[zIK,hk]
theorem zDR(ls:List Int):qQ (fun w v=>zE0 w v ls):=fun _ _ _ x h=>h.below x
theorem zGm(v:Value)(ls:List Int)(R C:Nat)(r c:Int)(M:List (List Int))(w:World)(h:zE0 w v ls)(hr:r=R)(hc:c=C)(hl:ls.length=R*C)(hR:R<=1000)(hC:C<=1000)(hM:genM R C (fun i j=>ls.getD (i*C+j) 0)=M):
  Calls Tryz.prog 34 #[.int .i64 r,.int .i64 c,v] w fun e w'=>∃v,e= .returned v/\qL w' v R C M/\Below w.heap.size w w':=by
 subst hr;subst hc;subst hM;exact(zL4 v R C ls w h hl hR hC).mono fun e w' ⟨v,bs,he,hm,hb⟩=>⟨v,he,hm.mat.1,hb⟩
theorem zPy(R C:Nat)(r c:Int)(w:World)(hr:r=R)(hc:c=C)(hR:R<=1000000)(hC:C<=1000000):
  Calls Tryz.prog 33 #[.int .i64 r,.int .i64 c] w fun e w'=>∃v,e= .returned v/\qL w' v R C (yX R C)/\Below w.heap.size w w':=by
 subst hr;subst hc;exact(zBS R C w hR hC).mono fun e w' ⟨v,bs,he,hm,hb⟩=>⟨v,he,hm.mat.1,hb⟩
theorem qL.agg{w:World}{v:Value}{R C:Int}{M:List (List Int)}(h:qL w v R C M):∃o n k,v= .agg #[.int .i64 R,.int .i64 C,.slice o n k]:=by
 obtain⟨A,rfl,ao,n,cap,rfl,-⟩:=h;exact⟨_,_,_,rfl⟩
theorem zJt.below{w w':World}{f:Value}{R C:Nat}{S U V W X:List (List Int)}(h:zJt w f R C S U V W X)(hb:Below w.heap.size w w'):zJt w' f R C S U V W X:=by
 obtain⟨s,u,v,x,y,e,h1,h2,h3,h4,h5⟩:=h.ex;exact⟨s,u,v,x,y,e,h1.below hb,h2.below hb,h3.below hb,h4.below hb,h5.below hb⟩
theorem zJT(v1 v2:Value)(R C:Int)(M:List (List Int))(w:World)(h1:qL w v1 R C M)(h2:qL w v2 R C M):
  Calls Tryz.prog 17 #[v1,v2] w fun e w'=>∃v,e= .returned v/\v= .bool true/\Below w.heap.size w w':=
 (zMW v1 v2 R C R C M M w h1 h2).mono fun e w' ⟨h,hb⟩=>⟨_,h,by rw[decide_eq_true ⟨rfl,rfl,rfl⟩],hb⟩
end Go.Proofs.YtgnmdddaiefooaaGreat
