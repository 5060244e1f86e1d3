/- Joined. -/
import Derived.Laws.EntriesVeiled
import Derived.Test.YtkidaebmhlijlaaGreatS20
import Derived.Test.YtkidaebmhlijlaaGreatS22
import Derived.Test.YtkidaebmhlijlaaGreatS23
import Derived.Test.YtkidaebmhlijlaaGreatS24
set_option linter.unusedVariables false
set_option linter.unusedSimpArgs false
set_option linter.unusedSectionVars false
set_option maxHeartbeats 16000000
set_option maxRecDepth 100000
variable{cs:Array Go.Value}{M:List (List Int)}{C M0 Q R a b e h i k m n p q r s:Nat}{x y z:Nat->Int}{c c' κ:Nat->Nat}{A B F G H K P:Nat->Nat->Int}{v:Go.Value}{w:Go.World}
namespace Go.Proofs.YtkidaebmhlijlaaGreat
open Go.RowKit
def zJZ(C:Nat)(L1 L2:(Nat->Int)->Prop)(x:Nat->Int):Prop:=∃u v:Nat->Int,L1 u/\L2 v/\∀b,b<C->x b=u b+v b
def zJS(R:Nat)(A B:Nat->Nat->Int):Nat->Nat->Int:=fun a b=>if a<R then A a b else B (a-R) b
theorem zIb{N:List (List Int)}(h:zBc R C M)(hN:zBc Q C N)(b:Nat):ent (M++N) a b=zJS R (ent M) (ent N) a b:=by
 have hl:M.length=R:=h.1;unfold zJS;by_cases ha:a<R
 ·rw[if_pos ha]
  show((M++N).getD a []).getD b 0=(M.getD a []).getD b 0;rw[xgb (l:=M++N),List.getElem?_append_left oM,<-xgb]
 rw[if_neg ha];show((M++N).getD a []).getD b 0=(N.getD (a-R) []).getD b 0;rw[xgb (l:=M++N),List.getElem?_append_right oM,hl,<-xgb]
theorem zSd(R Q:Nat)(f:Nat->Int):qH (R+Q) f=qH R f+qH Q fun a=>f (R+a):=by
 induction Q with
 |zero=>exact(jZ _).symm
 |succ Q ih=>
  show qH (R+Q) f+f (R+Q)=qH R f+(qH Q (fun a=>f (R+a))+f (R+Q));rw[ih,Int.add_assoc]
theorem zIH(R Q:Nat)(y:Nat->Int)(A B:Nat->Nat->Int)(b:Nat):(qH (R+Q) fun a=>y a*zJS R A B a b)=(qH R fun a=>y a*A a b)+qH Q fun a=>y (R+a)*B a b:=by
 rw[zSd];refine _root_.congr (congrArg _ (zL fun a ha=>?_)) (zL fun a ha=>?_)
 ·unfold zJS
  rw[if_pos ha]
 unfold zJS;rw[if_neg oM,zAT]
theorem yC.stk(x:Nat->Int):yC (R+Q) C (zJS R A B) x↔zJZ C (yC R C A) (yC Q C B) x:=by
 constructor
 ·rintro⟨y,hy⟩
  exact⟨fun b=>qH R fun a=>y a*A a b,fun b=>qH Q fun a=>y (R+a)*B a b,⟨y,fun b _=>rfl⟩,⟨fun a=>y (R+a),fun b _=>rfl⟩,fun b hb=>by rw[hy b hb,zIH]⟩
 rintro⟨u,v,⟨y,hy⟩,⟨z,hz⟩,hx⟩;refine⟨fun a=>if a<R then y a else z (a-R),fun b hb=>?_⟩;rw[zIH,hx b hb,hy b hb,hz b hb];refine _root_.congr (congrArg _ (zL fun a ha=>?_)) (zL fun a ha=>?_);rw[if_pos ha];rw[if_neg oM,zAT]
theorem yC.zero(R C:Nat)(A:Nat->Nat->Int):yC R C A fun _=>0:=⟨fun _=>0,fun b _=>(zBf fun a _=>yB _).symm⟩
theorem yC.ext(h:yC R C A x)(e:∀b,b<C->y b=x b):yC R C A y:=by
 obtain⟨z,hz⟩:=h;exact⟨z,fun b hb=>(e b hb).trans (hz b hb)⟩
theorem yC.add(h:yC R C A x)(k:yC R C A y):yC R C A fun b=>x b+y b:=by
 obtain⟨z,hz⟩:=h;obtain⟨w,hw⟩:=k;exact⟨fun a=>z a+w a,fun b hb=>by
  dsimp only;rw[hz b hb,hw b hb,<-zBj];exact zL fun a _=>(zBk _ _ _).symm⟩
theorem yC.smul(k:Int)(h:yC R C A x):yC R C A fun b=>k*x b:=by
 obtain⟨z,hz⟩:=h;exact⟨fun a=>k*z a,fun b hb=>by
  dsimp only;rw[hz b hb,<-jH];exact zL fun a _=>(qI _ _ _).symm⟩
theorem zRQ{Q:Nat->Nat->Int}(hG:HB (p+s) m G (zMh (p+s) C (zJS p P Q)))(x:Nat->Int):
  yC m C (fun a b=>qH p fun t=>G a t*P t b) x↔yC p C P x/\yC s C Q x:=by
 have hsum:∀(y:Nat->Int) (b:Nat),(qH m fun a=>y a*qH p fun t=>G a t*P t b)=qH p fun t=>(qH m fun a=>y a*G a t)*P t b:=fun y b=>(zG8 y G fun t=>P t b).symm
 constructor
 ·rintro⟨y,hy⟩
  have hk:zMh (p+s) C (zJS p P Q) fun t=>qH m fun a=>y a*G a t:=(hG.iff _).2 ⟨y,fun b _=>rfl⟩
  refine⟨⟨fun t=>qH m fun a=>y a*G a t,fun b hb=>by rw[hy b hb,hsum]⟩,⟨fun t=>-(qH m fun a=>y a*G a (p+t)),fun b hb=>?_⟩⟩;have h1:=hk b hb;rw[zIH]at h1;have h2:(qH s fun t=>-(qH m fun a=>y a*G a (p+t))*Q t b)=-1*qH s fun t=>(qH m fun a=>y a*G a (p+t))*Q t b:=by
   rw[<-jH];exact zL fun t _=>by rw[yD,zDP]
  rw[hy b hb,hsum,h2];omega
 rintro⟨⟨y,hy⟩,⟨w,hw⟩⟩;have hk:zMh (p+s) C (zJS p P Q) fun t=>if t<p then y t else-(w (t-p)):=fun b hb=>by
  rw[zIH];have h1:(qH p fun a=>(if a<p then y a else-(w (a-p)))*P a b)=qH p fun a=>y a*P a b:=zL fun a ha=>by rw[if_pos ha]
  have h2:(qH s fun a=>(if p+a<p then y (p+a)else-(w (p+a-p)))*Q a b)=-1*qH s fun a=>w a*Q a b:=by
   rw[<-jH];exact zL fun a _=>by rw[if_neg oM,zAT,yD,zDP]
  rw[h1,h2,<-hy b hb,<-hw b hb];omega
 obtain⟨c,hc⟩:=(hG.iff _).1 hk;refine⟨c,fun b hb=>?_⟩;rw[hsum,hy b hb];refine zL fun t ht=>?_
 have h3:=hc t oM;dsimp only at h3;rw[if_pos ht]at h3;rw[h3]
def zQP(m:Nat)(c:Nat->Nat)(G:Nat->Nat->Int):Int:=yW m fun i=>G i (c i)
theorem zR3(n:Nat)(f g:Nat->Int):yW n (fun i=>f i*g i)=yW n f*yW n g:=by
 induction n with
 |zero=>rfl
 |succ n ih=>
  show yW n (fun i=>f i*g i)*(f n*g n)=yW n f*f n*(yW n g*g n);rw[ih,qI,qI,jO (yW n g)]
theorem zSr(h:Ech C m c G):0<zQP m c G:=jX fun i hi=>h.pos i hi
theorem zNG{f:Nat->Int}(h:∃t,t<m/\f t≠0):∃t,t<m/\f t≠0/\∀s,s<t->f s=0:=by
 obtain⟨t,h1,h2⟩:=h;obtain⟨f0,⟨g1,g2⟩,g3⟩:=zOJ (P:=fun t=>t<m/\f t≠0) t ⟨h1,h2⟩;exact⟨f0,g1,g2,fun s hs=>zM fun hn=>by have:=g3 s ⟨by omega,hn⟩;omega⟩
theorem zW5{τ:Nat->Nat}(h1:∀i,i<m->τ i<m)(h2:∀i j,i<j->j<m->τ i<τ j):∀i,i<m->τ i=i:=by
 have hi:Inc m τ:=fun a ha=>h2 a (a+1) oM ha
 have hu:∀d i,i+d+1=m->τ i+d+1<=m:=fun d=>by
  induction d with
  |zero=>intro i hi;have:=h1 i oM;omega
  |succ d ih=>
   intro i hi;have:=ih (i+1) oM;have:=h2 i (i+1) oM oM;omega
 intro i him;have g1:=hi.le i him;have g2:=hu (m-1-i) i oM;omega
theorem zQr{Q:Nat->Nat->Int}(hP:Ech C m c P)(hQ:Ech C m c' Q)(hK:∀i,i<m->∀b,b<C->Q i b=qH m fun t=>K i t*P t b):
  (∀i,i<m->c' i=c i)/\(∀i,i<m->∀t,t<i->K i t=0)/\∀i,i<m->K i i*P i (c i)=Q i (c i):=by
 have hex:∀i,i<m->∃t,t<m/\K i t≠0/\∀s,s<t->K i s=0:=fun i hi=>zNG (zM fun hn=>by
  have h0:Q i (c' i)=0:=by
   rw[hK i hi _ (hQ.lt i hi)];exact zBf fun t ht=>by rw[show K i t=0 from zM fun h=>hn ⟨t,ht,h⟩,yB]
  have:=hQ.pos i hi;omega)
 have hτ:∃τ:Nat->Nat,∀i,i<m->τ i<m/\K i (τ i)≠0/\∀s,s<τ i->K i s=0:=⟨fun i=>if h:i<m then(hex i h).choose else 0,fun i hi=>by
  dsimp only;rw[dif_pos hi];exact(hex i hi).choose_spec⟩
 obtain⟨τ,hτ⟩:=hτ;have hlow:∀i,i<m->∀b,b<C->b<c (τ i)->Q i b=0:=fun i hi b hb hlt=>by
  rw[hK i hi b hb];refine zBf fun t ht=>?_
  rcases zG t (τ i)with h|h
  rw[(hτ i hi).2.2 t h,yB];rw[hP.zero t ht b (by
   rcases zG (τ i) t with h2|h2
   have:=hP.inc (τ i) t h2 ht;omega;obtain rfl:t=τ i:=by omega
   exact hlt),zZ]
 have hat:∀i,i<m->Q i (c (τ i))=K i (τ i)*P (τ i) (c (τ i)):=fun i hi=>by
  rw[hK i hi _ (hP.lt _ (hτ i hi).1)];refine zBB (hτ i hi).1 fun t ht hne=>?_
  rcases zAS hne with h|h
  rw[(hτ i hi).2.2 t h,yB];rw[hP.zero t ht _ (hP.inc _ _ h ht),zZ]
 have hc:∀i,i<m->c' i=c (τ i):=fun i hi=>by
  have hp:=hP.pos _ (hτ i hi).1;have hne:Q i (c (τ i))≠0:=by
   rw[hat i hi];intro h0;rcases Int.mul_eq_zero.1 h0 with h|h
   exact(hτ i hi).2.1 h;omega
  rcases yG (c' i) (c (τ i))with h|h|h
  ·have h1:=hlow i hi _ (hQ.lt i hi) h
   have h2:=hQ.pos i hi;omega
  exact h;exact absurd (hQ.zero i hi _ h) hne
 have hid:=zW5 (fun i hi=>(hτ i hi).1) (fun i j hij hj=>by
  have h1:=hQ.inc i j hij hj;rw[hc i oM,hc j hj]at h1;refine zCP fun hle=>?_
  rcases Nat.eq_or_lt_of_le hle with h|h
  rw[h]at h1;omega;have:=hP.inc _ _ h (hτ i oM).1;omega)
 refine⟨fun i hi=>by rw[hc i hi,hid i hi],fun i hi t ht=>(hτ i hi).2.2 t (by rw[hid i hi];exact ht),fun i hi=>?_⟩;have:=hat i hi;rw[hid i hi]at this;exact this.symm
theorem zQq{Q:Nat->Nat->Int}(hP:Ech C m c P)(hQ:Ech C m c' Q)(hK:∀i,i<m->∀b,b<C->Q i b=qH m fun t=>K i t*P t b):det m K*zQP m c P=zQP m c' Q:=by
 obtain⟨h1,h2,h3⟩:=zQr hP hQ hK;rw[zFZ fun a ha b _ hba=>h2 a ha b hba];unfold zQP;rw[<-zR3];exact zIp fun i hi=>by rw[h3 i hi,h1 i hi]
theorem zVo(h:Inv m m r K F)(hd:0<det m K):r=m/\yW r (fun i=>F i i)=det m K:=by
 have hk:m<=min m m:=by omega
 have h1:=h.minors hk (fun a=>a) (fun b=>b) (fun a ha=>ha) fun b hb=>hb
 have h2:=h.gen hk (g:=det m K) fun σ τ hσ hτ=>zH6 σ τ hσ hτ
 have h0:=h.dg.prod_nonneg (k:=m) hk;have he:yW m (fun i=>F i i)=det m K:=zC4 h0 (zBT hd) h1 h2;have hr:r=m:=by
  have hle:r<=m:=by have:=h.dg.le;omega
  refine zCc hle (zAE fun hlt=>?_);rw[zJ5 (f:=fun i=>F i i) (c:=r) hlt (h.dg.zero r (xgf _) oM)]at he;omega
 rw[hr];exact⟨rfl,he⟩
structure Lat(C:Nat)(L:(Nat->Int)->Prop):Prop where
 zero:L fun _=>0
 ext:∀x y:Nat->Int,L x->(∀b,b<C->y b=x b)->L y
 add:∀x y,L x->L y->L fun b=>x b+y b
 sub:∀x y,L x->L y->L fun b=>x b-y b
theorem zTk(R C:Nat)(A:Nat->Nat->Int):Lat C (yC R C A):=
 ⟨yC.zero R C A,fun _ _ h e=>h.ext e,fun _ _ h k=>h.add k,fun x y h k=>(h.add (k.smul (-1))).ext fun b _=>by omega⟩
def zVJ(L1 L2:(Nat->Int)->Prop)(x:Nat->Int):Prop:=L1 x/\L2 x
section
variable {C:Nat} {L M N:(Nat->Int)->Prop}
theorem zK8(k:Lat C M)(hx:L x):zJZ C L M x:=⟨x,_,hx,k.zero,fun b _=>(jZ _).symm⟩
theorem zMI(h:Lat C L)(hx:M x):zJZ C L M x:=⟨_,x,h.zero,hx,fun b _=>(zAi _).symm⟩
end
def bB(h:Nat):Nat:=24*(8*h)^4
theorem HB.rows_min(hb:HB C m G (yC R C A)):zD5 m R C A:=by
 obtain⟨X,hX⟩:=zE7 (F:=G) (G:=A) (p:=m) (q:=R) (C:=C) fun a ha=>(hb.iff _).2 (yC.row G ha)
 exact zD5.of_mul (F:=G) hX hb.min1
theorem HB.le_cols{L:(Nat->Int)->Prop}(h:HB C m G L):m<=C:=h.min1.cols
theorem zMn(hb:HB C m G (yC R C A))(hC:C<=4)(h1:1<=h)(hA:leM h R C A):leM (bB h) m C G:=
 hb.bound (R:=R) (W:=A) (by have:=hb.le_cols;omega) h1 hA (fun a ha=>yC.row A ha) hb.rows_min
def zQN(n:Nat)(F:Nat->Int):List Int:=(yL n F).filter fun z=>decide (1<z)
theorem zMS(n:Nat)(F:Nat->Int):zQN (n+1) F=zQN n F++if 1<F n then [F n]else []:=by
 unfold zQN yL;rw[zCb,zBY,List.filter_append];congr 1;by_cases h:1<F n
 ·rw[if_pos h];simp[h]
 rw[if_neg h];simp[h]
def zX7:List Int->Int
 | []=>1
 |z::zs=>z*zX7 zs
def zY9(d:Nat)(T K:Nat->Nat->Int)(a b:Nat):Int:=if a<d then(if b<d then idf a b else-(T a (b-d)))else if b<d then 0 else K (a-d) (b-d)

theorem Ech.indep(h:Ech n m c G)(hy:∀b,b<n->(qH m fun t=>y t*G t b)=0):∀t,t<m->y t=0:=by
 intro t;induction t using Nat.strongRecOn with
 | ind t ih=>
  intro ht;have h1:=hy (c t) (h.lt t ht);rw[zBB ht fun s hs hne=>by
   rcases zAS hne with g|g
   rw[ih s g hs,yB];rw[h.zero s hs _ (h.inc t s g hs),zZ]]at h1
  have h2:=h.pos t ht;rcases Int.mul_eq_zero.1 h1 with g|g
  exact g;omega
theorem Ech.uniq(h:Ech n m c G)(hy:∀b,b<n->(qH m fun t=>y t*G t b)=qH m fun t=>z t*G t b):∀t,t<m->y t=z t:=fun t ht=>by
 have:=h.indep (y:=fun t=>y t-z t) (fun b hb=>by
  have e:(qH m fun t=>(y t-z t)*G t b)=(qH m fun t=>y t*G t b)+-1*qH m fun t=>z t*G t b:=by
   rw[<-jH,<-zBj];exact zL fun t _=>by rw[zDq];omega
  rw[e,hy b hb];omega) t ht
 omega
def Ind(n m:Nat)(G:Nat->Nat->Int):Prop:=∀y z:Nat->Int,(∀b,b<n->(qH m fun t=>y t*G t b)=qH m fun t=>z t*G t b)->∀t,t<m->y t=z t
def zZF(D C:Nat)(A S:Nat->Nat->Int)(x y:Nat->Int)(b:Nat):Int:=(qH D fun t=>x t*A t b)+qH C fun t=>y t*S t b

def zYt(n:Nat)(x:Nat->Int)(U:Nat->Nat->Int)(b:Nat):Int:=qH n fun t=>x t*U t b
def ImL(n:Nat)(U:Nat->Nat->Int)(L:(Nat->Int)->Prop)(x:Nat->Int):Prop:=∃y,L y/\∀b,b<n->x b=zYt n y U b
theorem zTD(hP:Hnf n m m c P)(hB:leM h R n B)(hK:∀i,i<R->∀b,b<n->B i b=qH m fun t=>K i t*P t b)(hi:i<R):∀t,t<m->(K i t).natAbs<=2^t*h:=by
 intro t;induction t using Nat.strongRecOn with
 | ind t ih=>
  intro ht;have hp:=hP.ech.pos t ht;have hc:=hP.ech.lt t ht;obtain⟨p,hpe⟩:∃p,(P t (c t)).natAbs=p:=⟨_,rfl⟩;have hp1:1<=p:=by omega
  have e:=hK i hi (c t) hc;rw[zEh (n:=t+1) ht fun s h1 h2=>by rw[hP.ech.zero s h2 (c t) (hP.ech.inc t s oM h2),zZ]]at e;have e':B i (c t)=(qH t fun s=>K i s*P s (c t))+K i t*P t (c t):=e;have hg:∀k,k<=t->(qH k fun s=>K i s*P s (c t)).natAbs+h*p<=2^k*(h*p):=fun k=>by
   induction k with
   |zero=>intro _;simp[qH]
   | succ k ihk=>
    intro hk;have h1:=ihk oM;have h2:(K i k*P k (c t)).natAbs<=2^k*(h*p):=by
     have h3:=hP.red k t oM ht trivial;rw[qZ,<-zC];exact qT (ih k oM oM) oM
    have h4:(qH (k+1) fun s=>K i s*P s (c t)).natAbs<=(qH k fun s=>K i s*P s (c t)).natAbs+(K i k*P k (c t)).natAbs:=Int.natAbs_add_le _ _;rw[qF,zN (2^k) 2,zC,Nat.two_mul];omega
  have h1:=hg t (xgf t);have h2:=hB i hi (c t) hc;have h3:h<=h*p:=zQ _ hp1;have h4:(K i t*P t (c t)).natAbs<=2^t*(h*p):=by omega
  rw[qZ,hpe,<-zC]at h4;exact Nat.le_of_mul_le_mul_right h4 oM
theorem zLc(hP:Hnf n m m c P)(hm:m<=4)(hB:leM h R n B)(hK:∀i,i<R->∀b,b<n->B i b=qH m fun t=>K i t*P t b):leM (8*h) R m K:=fun i hi t ht=>
 zB (zTD hP hB hK hi t ht) (zO _ (zB (qE oM (show t<=3 by omega)) dE))

theorem zWb{z:Int}(h:z.natAbs<BD):Sm z:=zJX.bsm.sm z h
structure zXm(R C:Nat)(A H U V:List (List Int)):Prop where
 fh:zBc R C H
 fu:zBc R R U
 fv:zBc R R V
 chk:zYY R C A R C H R R U R R V
 lat:∃r c G,zIN R C r c (ent A) G/\H=genM R C G
 sh:∀r∈H,∀z∈r,Sm z
 m1:zHz U A R R C
 m2:zHz U V R R R
theorem zTU{P:Int->Prop}(h:∀a,a<R->∀b,b<C->P (F a b)):∀r∈genM R C F,∀z∈r,P z:=by
 intro r hr z hz;unfold genM at hr;obtain⟨i,hi,rfl⟩:=List.mem_map.1 hr;obtain⟨j,hj,rfl⟩:=List.mem_map.1 hz;exact h i (yI.1 hi) j (yI.1 hj)
instance (C:Nat) (F:Nat->Nat->Int) (i:Nat):Decidable (zFW C F i):=
 decidable_of_iff (lead C F i<0∨(¬ lead C F i<0/\(∀k,k<i->0<=lead C F k/\lead C F k<lead C F i)/\0<F i (lead C F i).toNat/\∀k,k<i->0<=F k (lead C F i).toNat/\F k (lead C F i).toNat<F i (lead C F i).toNat)) (by
  unfold zFW
  constructor
  ·rintro(h|⟨h1,h2,h3⟩)
   ·exact .inl h
   exact .inr ⟨(lead C F i).toNat,by omega,fun k hk=>by have:=h2 k hk;omega,h3⟩
  rintro(h|⟨c,h1,h2,h3⟩)
  exact .inl h
  refine .inr ⟨by omega,fun k hk=>by rw[h1];exact h2 k hk,?_⟩
  rw[h1,zBd]
  exact h3)
instance (R C:Int) (M:List (List Int)):Decidable (zSz R C M):=inferInstanceAs (Decidable (_/\_))
def zYf(R C:Nat)(A W X Y:List (List Int)):Prop:=zSz R C W/\(∀a,a<R->∀b,b<C->ent A a b=qH R fun t=>ent X a t*ent W t b)/\∀a,a<R->∀b,b<C->ent W a b=qH R fun t=>ent Y a t*ent A t b
instance (R C:Nat) (A W X Y:List (List Int)):Decidable (zYf R C A W X Y):=inferInstanceAs (Decidable (_/\_))
theorem zRa(h:zTn (M0+1) M=true)(hF:zBc R C M):leM M0 R C (ent M):=fun a ha b hb=>by
 have hl:a<M.length:=by rw[hF.1];exact ha
 have hr:=hF.2 M[a] (zAV _);have hb':b<M[a].length:=by omega
 have e:ent M a b=M[a][b]:=zGG (xga hl) (xga hb');have:=of_decide_eq_true (qW.1 (qW.1 h M[a] (zAV _)) M[a][b] (zAV _));rw[e];omega
/- The calls of sanity. -/
section
variable {Z:Nat->Prop} {w:World} {bw R C:Nat} {x:Bst}
end
structure MvI(R C M0 i:Nat)(x0 x:Bst):Prop where
 ops:∃l,jN R l/\x=zCK l x0
 bd:leB (M0*4^i) R C R x
section
variable {R C M0 i:Nat} {x0 x:Bst}
end
theorem zAO.keep3{R C:Int}(h:zAO w v R C M)(hb:Blk w b 32 cs)(x y z:Value):zAO (((w.setCell ⟨b,0,none⟩ x).setCell ⟨b,1,none⟩ y).setCell ⟨b,2,none⟩ z) v R C M:=by
 obtain⟨A,rfl,h⟩:=h;exact⟨A,rfl,h.off hb dE dE (fun k hk=>zAe _ _ k _ _ _ hk) (hb.lext3 dE _ _ _)⟩

def zY4(q r:List Int):World->Value->Prop:=fun w v=>∃qv rv,v= .tuple #[qv,rv,.int .i64 0]/\zBm w qv q/\zBm w rv r
def zY5(xs:List Int):World->Value->Prop:=fun w v=>∃b rv,v= .pointer (some ⟨b,0,none⟩)/\b<w.heap.size/\w.cell? ⟨b,0,none⟩=some rv/\zBm w rv xs
def zYg:World->Value->Prop:=fun w v=>∃H U V,zMg w v 0 3 H U V/\zXm 0 3 [] H U V
theorem nxd{W W':World}{o:Obj}(h:Below (W.alloc o).heap.size (W.alloc o) W'):Below W.heap.size W W':=nxa (zA _ _) h

theorem zOA(hM:2*M0<=2^e)(hk:e*2^k<=32*zSy):gk k M0<BD:=by
 rw[zS5];have h2:=zUs k M0;have h3:(2*M0)^(2^k)<=(2^e)^(2^k):=jB hM _;rw[<-jS]at h3;have h4:=zF4 hk;have h5:0<2^(e*2^k):=qP oM;omega
theorem zHa(F:Nat->Nat->Int):(genM R C F).take R=genM R C F:=jE (by simp[genM])
theorem zMg.agg3{f:Value}{H U V:List (List Int)}(h:zMg w f R C H U V):∃o1 n1 k1 o2 n2 k2 o3 n3 k3,f= .agg #[.int .i64 R,.int .i64 C,.slice o1 n1 k1,.int .i64 R,.int .i64 R,.slice o2 n2 k2,.int .i64 R,.int .i64 R,.slice o3 n3 k3]∧
  zAO w (.agg #[.int .i64 R,.int .i64 C,.slice o1 n1 k1]) R C H/\zAO w (.agg #[.int .i64 R,.int .i64 R,.slice o2 n2 k2]) R R U/\zAO w (.agg #[.int .i64 R,.int .i64 R,.slice o3 n3 k3]) R R V:=by
 obtain⟨a,b,c,rfl,h1,h2,h3⟩:=h.ex;obtain⟨o1,n1,k1,rfl,-⟩:=id h1;obtain⟨o2,n2,k2,rfl,-⟩:=id h2;obtain⟨o3,n3,k3,rfl,-⟩:=id h3;exact⟨_,_,_,_,_,_,_,_,_,rfl,⟨_,rfl,h1⟩,⟨_,rfl,h2⟩,⟨_,rfl,h3⟩⟩
theorem zIY(F:Nat->Nat->Int):(genM R C F).drop r=genM (R-r) C (zOz r F):=by
 refine qO (by simp[genM]) fun i h1 h2=>?_
 simp[genM,yL,zOz]
theorem zNB(R C:Int)(M:List (List Int)):zAQ (fun w v=>zH2 w v R C M):=fun _ _ _ e h=>h.below e
theorem zW9(v:Value)(R C r:Nat)(κ:Nat->Nat)(M:List (List Int))(w:World)(h:zAO w v R C M)(hF:zBc R C M)(hH:Hnf C R r κ (ent M)):
  Calls Tryz.prog 104 #[v] w fun e w'=>∃v,e= .returned v/\v= .int .i64 r/\Below w.heap.size w w':=
 (zRV v R C r κ M w h hF hH).mono fun _ _ h=>⟨_,h.1,rfl,h.2⟩
theorem Hnf.genM(h:Hnf C R r κ H):Hnf C R r κ (ent (Go.Proofs.YtkidaebmhlijlaaGreat.genM R C H)):=by
 obtain⟨q1,q2,q3,q4⟩:=h;have e:∀a,a<R->∀b,b<C->ent (Go.Proofs.YtkidaebmhlijlaaGreat.genM R C H) a b=H a b:=fun a ha b hb=>jM ha hb
 exact⟨q1,⟨q2.lt,fun k hk=>by rw[e k oM _ (q2.lt k hk)];exact q2.pos k hk,fun k hk t ht=>by rw[e k oM t (by have:=q2.lt k hk;omega)];exact q2.zero k hk t ht,q2.inc⟩,
  fun i j h1 h2 h3=>by rw[e i oM _ (q2.lt j h2),e j oM _ (q2.lt j h2)];exact q3 i j h1 h2 h3,fun a h1 h2 t h3=>by rw[e a h2 t h3];exact q4 a h1 h2 t h3⟩
def zLL(R C:Nat)(A:Nat->Nat->Int)(m:Nat)(G:Nat->Nat->Int):Prop:=HB R m G (zMh R C A)/\∃r c H U V,zEn R C r c A H U V
theorem zLL.of{r':Nat}{U V H' U' V':Nat->Nat->Int}(h:zEn R C r c A H U V)(hM:M=genM (R-r) R (zOz r U))(h':zEn (R-r) R r' c' (ent M) H' U' V'):zLL R C A r' H':=by
 refine⟨h'.lat.hb.of fun x=>?_,r,c,H,U,V,h⟩;rw[hM,<-h.ker x];exact yC.congr (fun a ha b hb=>jM ha hb) x
def kb(h:Nat):Nat:=24*(8*(120*h^4))^4
def zOr(R C:Nat)(A:Nat->Nat->Int)(w:World)(v:Value):Prop:=∃m G,zLL R C A m G/\zAO w v m R (genM m R G)
theorem zNA(R C:Nat)(A:Nat->Nat->Int):zAQ (zOr R C A):=fun _ _ _ e ⟨m,G,h1,h2⟩=>⟨m,G,h1,h2.below e⟩
theorem zV8(R C:Nat)(A:Nat->Nat->Int):∃q,zD5 q R C A/\∀k,zD5 k R C A->k<=q:=by
 have h0:zD5 0 R C A:=⟨fun a=>a,fun a=>a,fun a ha=>by omega,fun a ha=>by omega,show(1:Int)≠0 by decide⟩;have h:∀n,(∀k,zD5 k R C A->k<=n)->∃q,zD5 q R C A/\∀k,zD5 k R C A->k<=q:=fun n=>by
  induction n with
  |zero=>exact fun h=>⟨0,h0,h⟩
  | succ n ih=>
   intro h;by_cases hm:zD5 (n+1) R C A
   ·exact⟨n+1,hm,h⟩
   exact ih fun k hk=>by
    have:=h k hk;rcases zG k (n+1)with h1|h1
    omega;obtain rfl:k=n+1:=by omega
    exact absurd hk hm
 exact h R fun k hk=>hk.tr.tr.le
theorem zU8(h:∀k,zD5 k R C A->k<=q):RkB q R C ⟨A,idf,idf⟩:=fun l k ρ κ hl _ h1 _ h3=>by
 rw[zHQ]at h3;have h4:zD5 k k C (vw ρ (zA9 l A)):=h3.min1;obtain⟨σ,τ,e1,e2,e3⟩:=h4;exact h k (zD5.of_mul (F:=zA9 l A) (X:=zA9 l idf) (q:=R) (fun a ha b hb=>zK0 hl A a ha b) ⟨fun a=>ρ (σ a),τ,fun a ha=>h1 _ (e1 a ha),e2,e3⟩)
theorem zVq{q g1:Nat}(hM1:1<=M0)(v:Value)(M:List (List Int))(R C:Nat)(w:World)(h:zAO w v R C M)(hF:zBc R C M)(hR:R<=6)(hC:C<=1000000)(hA:leM M0 R C (ent M))
  (hq1:zD5 q R C (ent M)) (hq2:∀k,zD5 k R C (ent M)->k<=q) (hg:gk (g1+es (R-q)) M0<BD)
  (hfm:∀(v:Value) (w:World),zAO w v R C M->Calls Tryz.prog 102 #[v] w fun e w'=>∃v r c H U V,e= .returned v/\zEn R C r c (ent M) H U V/\leM (gk g1 M0) R R U/\leM (gk g1 M0) R R V/\zMg w' v R C (genM R C H) (genM R R U) (genM R R V)/\Below w.heap.size w w'):
  Calls Tryz.prog 62 #[v] w fun e w'=>∃v,e= .returned v/\zOr R C (ent M) w' v/\Below w.heap.size w w':=by
 have h0:=h;obtain⟨A,rfl,h⟩:=h;obtain⟨ao,n,cap,rfl,e2,e3,e4,-⟩:=id h;obtain rfl:R=n:=by rw[<-e2,hF.1]
 have hdv:decide (zBL R C M)=true:=decide_eq_true hF.valid;have H0:=xgv h0;have HF:=xgv hF;have HA:=xgv hA;have HFM:=xgv hfm;have HG2:zAN (gk (es (R-q)) (gk g1 M0)<BD):=⟨by rw[<-zGH];exact hg⟩;have HQ:zAN (∀r κ H U V,zEn R C r κ (ent M) H U V->r=q):=⟨fun r κ H U V hf=>zCc (hq2 r hf.lat.min1) (hf.lat.rank hq1)⟩;clear h0 hF e2 h hA hg hq1 hq2 hfm;go_enter Tryz.func62,Tryz.ntmps62;go_upto_region 1 with(fail)
 refine zD ?_;intro W0 hW0;obtain⟨hB0,bx,br,hs0⟩:=zAd hW0;obtain⟨c1,c2,c3,c4,c5,c6⟩:=bx.three;clear hW0;go_wp2_with fail
 refine(zDH _ R C M W0 (H0.out.below hB0)).mono ?_;rintro e w1 ⟨rfl,hb1⟩;rw[hdv];have bx:=bx.below hb1;have br:=br.below hb1;have hB:=nx hB0 hb1;clear c1 c2 c3 c4 c5 c6 hdv;obtain⟨c1,c2,c3,c4,c5,c6⟩:=bx.three;go_wp2_with fail
 refine(HFM.out _ w1 (H0.out.below hB)).mono ?_;rintro e w2 ⟨fv,r,κ,H,U,V,rfl,hf,hU,-,hv,hb2⟩;obtain⟨f1,f2,f3,f4,f5,f6,f7,f8,f9,rfl,hfh,hfu,-⟩:=hv.agg3;have HFO:=xgv hf;have hrR:=hf.hnf.le;have HHN:zAN (Hnf C R r κ (ent (genM R C H))):=⟨hf.hnf.genM⟩;obtain rfl:r=q:=HQ.out _ _ _ _ _ hf;have HGG:=HG2;clear HQ;have HUL:zAN (leM (gk g1 M0) (R-r) R (ent (((genM R R U).take R).drop r))):=⟨by
  rw[zHa,zIY];exact zMx fun a ha b hb=>hU (r+a) oM b hb⟩
 have HFI:zAN (zBc (R-r) R (((genM R R U).take R).drop r)):=⟨by rw[zHa,zIY];exact jJ _ _ _⟩;have HLP:zAN (∀r' c' H' U' V',zEn (R-r) R r' c' (ent (((genM R R U).take R).drop r)) H' U' V'->zLL R C (ent M) r' H'):=⟨fun r' c' H' U' V' h'=>zLL.of hf (by rw[zHa,zIY]) h'⟩;have br:=br.below hb2;have bx:=bx.below hb2;have hB:=nx hB hb2;clear c1 c2 c3 c4 c5 c6 hf hU hv;go_upto_region 4 with(fail)
 refine zD ?_;intro W3 hW3;obtain⟨hB3,T3,hs3⟩:=qM hW3;have HFH:=xgv (hfh.below hB3);have HFU:=xgv (hfu.below hB3);have bx:=bx.below hB3;have br:=br.below hB3;have hB:=nx hB hB3;have lbr:=br.lt;clear hW3 hfh hfu;obtain⟨c1,c2,c3,c4,c5,c6⟩:=bx.three;obtain⟨q0,q1,q2,q3,q4,q5,q6,q7,q8⟩:=T3.nine;have hl1:=zNB ((R-r:Nat):Int) R (((genM R R U).take R).drop r);have hl2:=zNA R C (ent M);refine yX 9 [pcD 4 [] (fun _ v=>v= .int .i64 r),pcD 7 [] (fun w' v=>zH2 w' v ((R-r:Nat):Int) R (((genM R R U).take R).drop r)),pcD 8 [7] (zOr R C (ent M))] ?_;refine sRd ?_;refine sRc (fun wS hI Gk hG=>?_) (fun _ hv=>?_)
 ·go_simp
  refine(zW9 _ R C r κ _ _ (HFH.out.below hI.bel) (jJ _ _ _) HHN.out).mono ?_;rintro e wa ⟨v,rfl,hv,hba⟩;exact⟨_,rfl,hG _ _ hv,hba⟩
 obtain⟨_,-,rfl⟩:=hv;refine sRd ?_;refine sRc (fun wS hI Gk hG=>by go_simp;exact ck hG (zVS _ R R r R _ _ (HFU.out.below hI.bel) (jJ _ _ _) hrR (xgf _) oM)) (fun va7 _=>?_);refine sRc (fun wS hI ha7 Gk hG=>?_) (fun va8 _=>?_)
 ·go_simp
  refine(zLq (zIe g1 hM1) _ _ (R-r) R _ ha7 HFI.out oM oM HGG.out HUL.out).mono ?_;rintro e wa ⟨v,r',c',H',U',V',rfl,hf',hm',hba⟩;have hv:zOr R C (ent M) wa v:=⟨r',H',HLP.out _ _ _ _ _ hf',hm'⟩;exact⟨_,rfl,hG _ _ hv,hba⟩
 refine sRe ?_;intro w4 hbw4 _ ha7 ha8;obtain⟨m,G,hlp,hm⟩:=ha8;obtain⟨t1,t2,t3,rfl⟩:=hm.agg;have br:=br.below hbw4;have hB4:=nx hB hbw4;obtain⟨r1,r2,r3,r4,r5,r6⟩:=br.three;clear c1 c2 c3 c4 c5 c6 q0 q1 q2 q3 q4 q5 q6 q7 q8;have HMM:=xgv hm;have HLL:=xgv hlp;clear hm hlp;go_wp2;refine zAl (r:=w.heap.size+1) rfl rfl rfl (br.put3 _ _ _) ⟨_,rfl,⟨m,G,HLL.out,HMM.out.keep3 br _ _ _⟩,yJ (yJ (yJ hB4 oM 0 _) oM 1 _) oM 2 _⟩
theorem zRU{q:Nat}(hM1:1<=M0)(v:Value)(M:List (List Int))(R C:Nat)(w:World)(h:zAO w v R C M)(hF:zBc R C M)(hR:R<=6)(hC:C<=1000000)(hA:leM M0 R C (ent M))(hp:p<=R)(hE:Ech C p κ (ent M))(hRd:zFU (fun _ _=>True) p κ (ent M))
  (hq1:zD5 q R C (ent M)) (hq2:∀k,zD5 k R C (ent M)->k<=q) (hg:gk (esp q p R+es (R-q)) M0<BD):
  Calls Tryz.prog 62 #[v] w fun e w'=>∃v,e= .returned v/\zOr R C (ent M) w' v/\Below w.heap.size w w':=
 zVq hM1 v M R C w h hF hR hC hA hq1 hq2 hg fun v w h=>zRI hM1 v M R C w h hF hR hC hp hE hRd (zJ (zEL hM1 oM) hg) hA (zU8 hq2)
theorem zVb(hp:p<=3)(hs:s<=3)(hq:q<=3)(h1:p<=q)(h2:s<=q):esp q p (p+s)+es (p+s-q)<=34:=by
 have h:∀p,p<4->∀s,s<4->∀q,q<4->p<=q->s<=q->esp q p (p+s)+es (p+s-q)<=34:=by decide
 exact h p oM s oM q oM h1 h2
def zYi(R C:Nat)(A:Nat->Nat->Int)(m:Nat)(S:Nat->Nat->Int):Prop:=HB C m S (zXq R C A)/\zD5 m R C A
def zYj(R C:Nat)(A:Nat->Nat->Int)(w:World)(v:Value):Prop:=∃m S,zYi R C A m S/\zAO w v m C (genM m C S)
abbrev tG:TypeId:=63
def zYZ(f g:Nat)(t:TypeId)(w:World)(v:Value):Prop:=∃b,v= .func (.func f) #[] #[.pointer (some ⟨b,0,none⟩)]/\Blk w b t #[.func (.func g) #[] #[]]
theorem zOe(he:2*h<=2^e)(he2:e<=35000000000000):h<BD:=zOA (k:=0) he (by rw[zEH];omega)
theorem zLw(he:2*h<=2^e)(he2:e<=35000000000000)(hF:zBc R C M)(hA:leM h R C (ent M)):∀r∈M,∀z∈r,Sm z:=by
 rw[zLn hF];exact zTU fun a ha b hb=>zWb (zJ (hA a ha b hb) (zOe he he2))
structure zY7(R C:Nat)(M:List (List Int))(k:Nat)(w:World)(v:Value):Prop where
 zero:k=0->zAO w v R C M
 one:k=1->zOr C R (trF (ent M)) w v
 two:k=2->zYj R C (ent M) w v
theorem zSX(v1 v2:Value)(R1 C1 R2 C2:Int)(w:World)(h1:zEV R1 C1 w v1)(h2:zEV R2 C2 w v2)(hne:¬ (R1=R2/\C1=C2)):
  Calls Tryz.prog 125 #[v1,v2] w fun e w'=>∃v,e= .returned v/\v= .bool false/\Below w.heap.size w w':=by
 refine(zHt v1 v2 R1 C1 R2 C2 w h1 h2).mono ?_;rintro e w' ⟨rfl,hb⟩;exact⟨_,rfl,by rw[decide_eq_false hne],hb⟩
theorem zNJ(v1 v2:Value)(R Q C:Nat)(M1 M2:List (List Int))(w:World)(h1:zAO w v1 R C M1)(h2:zAO w v2 Q C M2)(hF1:zBc R C M1)(hF2:zBc Q C M2)(hne:R≠Q):
  Calls Tryz.prog 80 #[v1,v2] w fun e w'=>e= .returned (.bool false)/\Below w.heap.size w w':=by
 have H1:=xgv h1;have H2:=xgv h2;obtain⟨A1,rfl,h1⟩:=h1;obtain⟨A2,rfl,h2⟩:=h2;obtain⟨ao,n,cap,rfl,e2,e3,e4,-⟩:=id h1;obtain⟨bo,q,bcap,rfl,g2,g3,g4,-⟩:=id h2;obtain rfl:R=n:=by rw[<-e2,hF1.1]
 obtain rfl:Q=q:=by rw[<-g2,hF2.1]
 have HV1:=xgv hF1.valid;have HV2:=xgv hF2.valid;have HN:zAN (¬ ((R:Int)=(Q:Int)/\(C:Int)=(C:Int))):=⟨fun h=>hne oM⟩;clear hF1 hF2 e2 g2 hne h1 h2;have hl1:=zGc (.int .i64 R) (.int .i64 C) (.slice ao R cap) (.int .i64 Q) (.int .i64 C) (.slice bo Q bcap);have hl2:=zEO (.int .i64 R) (.int .i64 C) (.slice ao R cap);have hl4:=zEO (.int .i64 Q) (.int .i64 C) (.slice bo Q bcap);have hl3:=zEd R C;have hl5:=zEd Q C;go_enter Tryz.func80,Tryz.ntmps80;go_upto_region 1 with(fail)
 refine zD ?_;intro W0 hW0;obtain⟨hB0,bx1,bx2,hs0⟩:=zAd hW0;obtain⟨c1,c2,c3,c4,c5,c6⟩:=bx1.three;obtain⟨d1,d2,d3,d4,d5,d6⟩:=bx2.three;clear hW0;refine zCn [pcD 2 [] (zXd (.int .i64 R) (.int .i64 C) (.slice ao R cap) (.int .i64 Q) (.int .i64 C) (.slice bo Q bcap)),pcD 3 [2] (fun _ v=>v= .bool true),pcD 7 [] (zVM (.int .i64 R) (.int .i64 C) (.slice ao R cap)),pcD 8 [7] (zEV R C),pcD 10 [] (zVM (.int .i64 Q) (.int .i64 C) (.slice bo Q bcap)),pcD 11 [10] (zEV Q C),pcD 12 [8,11] (fun _ v=>v= .bool false)] ?_;refine sRd ?_;refine sRc (fun wS hI Gk hG=>?_) (fun va2 _=>?_)
 ·go_simp
  exact⟨hG _ _ ⟨_,rfl,qQ _ _ _⟩,(zA _ _).alloc (xgf _) _⟩
 refine sRc (fun wS hI ha2 Gk hG=>?_) (fun _ hv=>?_)
 ·obtain⟨g2,rfl,gb2⟩:=ha2
  go_simp;refine(zNt g2 2 R C Q C _ _ M1 M2 _ gb2 (xgf _) oM ((H1.out.below hB0).below hI.bel).off ((H2.out.below hB0).below hI.bel).off HV1.out HV2.out).mono ?_;rintro e wa ⟨v,rfl,hv,hba⟩;exact⟨_,rfl,hG _ _ hv,hba⟩
 obtain⟨_,-,rfl⟩:=hv;refine sRd ?_;refine sRc (fun wS hI Gk hG=>?_) (fun va7 _=>?_)
 ·go_simp
  exact⟨hG _ _ ⟨_,rfl,qQ _ _ _⟩,(zA _ _).alloc (xgf _) _⟩
 refine sRc (fun wS hI ha7 Gk hG=>?_) (fun va8 _=>?_)
 ·obtain⟨g7,rfl,gb7⟩:=ha7
  go_simp;refine(zEy g7 1 R C _ _ gb7 ⟨_,_,_,rfl⟩ (xgf _) oM).mono ?_;rintro e wa ⟨v,rfl,hv,hba⟩;exact⟨_,rfl,hG _ _ hv,hba⟩
 refine sRd ?_;refine sRc (fun wS hI Gk hG=>?_) (fun va10 _=>?_)
 ·go_simp
  exact⟨hG _ _ ⟨_,rfl,qQ _ _ _⟩,(zA _ _).alloc (xgf _) _⟩
 refine sRc (fun wS hI ha10 Gk hG=>?_) (fun va11 _=>?_)
 ·obtain⟨g10,rfl,gb10⟩:=ha10
  go_simp;refine(zEy g10 1 Q C _ _ gb10 ⟨_,_,_,rfl⟩ (xgf _) oM).mono ?_;rintro e wa ⟨v,rfl,hv,hba⟩;exact⟨_,rfl,hG _ _ hv,hba⟩
 refine sRc (fun wS hI ha8 ha11 Gk hG=>?_) (fun _ hv=>?_)
 ·go_simp
  refine(zSX _ _ R C Q C _ ha8 ha11 HN.out).mono ?_;rintro e wa ⟨v,rfl,hv,hba⟩;exact⟨_,rfl,hG _ _ hv,hba⟩
 obtain⟨_,-,rfl⟩:=hv;refine sRd ?_;refine sRe ?_;intro w1 hbw1 ha2 _ ha7 ha8 ha10 ha11 _;have hBt:=nx hB0 hbw1;go_wp2;go_ret;exact⟨rfl,hBt⟩
theorem zVw(v1 v2:Value)(R Q C:Nat)(M1 M2:List (List Int))(w:World)(h1:zAO w v1 R C M1)(h2:zAO w v2 Q C M2)(hF1:zBc R C M1)(hF2:zBc Q C M2)(hC:C<=1000000):
  Calls Tryz.prog 80 #[v1,v2] w fun e w'=>∃v,e= .returned v/\v= .bool (decide (M1=M2))/\Below w.heap.size w w':=by
 by_cases e:R=Q
 ·subst e
  exact(zPT v1 v2 R C M1 M2 w h1 h2 hF1 hF2 hC).mono fun e w' h=>⟨_,h.1,rfl,h.2⟩
 refine(zNJ v1 v2 R Q C M1 M2 w h1 h2 hF1 hF2 e).mono fun e' w' h=>⟨_,h.1,?_,h.2⟩
 rw[decide_eq_false];rintro rfl;exact e (by rw[<-hF1.1,<-hF2.1])
def zY6(f g:Nat)(t:TypeId):World->Value->Prop:=fun w v=>∃s b1 b2,v= .slice (some ⟨s,0,none⟩) 2 2/\Blk w s t #[.func (.func f) #[] #[.pointer (some ⟨b1,0,none⟩)],.func (.func f) #[] #[.pointer (some ⟨b2,0,none⟩)]]/\Blk w b1 t #[.func (.func g) #[] #[]]/\Blk w b2 t #[.func (.func g) #[] #[]]
theorem zKv(v:Value)(R C:Nat)(M:List (List Int))(w:World)(h:zAO w v R C M)(hF:zBc R C M):
  Calls Tryz.prog 85 #[v] w fun e w'=>∃v,e= .returned v/\v= .bool true/\Below w.heap.size w w':=
 (zDH v R C M w h).mono fun e w' h=>⟨_,h.1,by rw[decide_eq_true hF.valid],h.2⟩
def zYk(R C:Nat)(A:Nat->Nat->Int):Prop:=∀x,zXq R C A x->yC R C A x
def zHf(R C:Nat)(A:Nat->Nat->Int)(w:World)(v:Value):Prop:=∃r c H,zIN R C r c A H/\zAO w v r C (genM r C H)
theorem zHJ(R C:Nat)(A:Nat->Nat->Int):zAQ (zHf R C A):=fun _ _ _ e ⟨r,c,H,h1,h2⟩=>⟨r,c,H,h1,h2.below e⟩
theorem zPC(hM1:1<=M0)(v:Value)(M:List (List Int))(R C:Nat)(w:World)(h:zH2 w v R C M)(hF:zBc R C M)(hR:R<=6)(hC:C<=1000000)(hg:gk (esr q R) M0<BD)(hA:leM M0 R C (ent M))(hrk:RkB q R C ⟨ent M,idf,idf⟩):
  Calls Tryz.prog 59 #[v] w fun e w'=>∃v r c H,e= .returned v/\zIN R C r c (ent M) H/\zAO w' v r C (genM r C H)/\Below w.heap.size w w':=by
 have hB:=zJX;have hB0:leB M0 R C 0 ⟨ent M,idf,idf⟩:=⟨hA,fun _ _ b hb=>by omega,fun _ _ b hb=>by omega⟩;have hE:=zQ2 (r:=q) (Cs:=C) (x0:=⟨ent M,idf,idf⟩) (Ct:=0) hR hM1 hg hrk;have hMB:M0<BD:=zJ (zJK _ hM1) hg;refine(zJm hB v M R C w h hF oM hC (hA.ok hMB) (zFm (z:=1) dE).sm (x0:=⟨ent M,idf,idf⟩) rfl hE (zOH hB0 hM1)).mono ?_;rintro ee w' ⟨v,y,L,rfl,hJ,hv,hb⟩;obtain⟨hJ,hr⟩:=JH.fin hJ;have hl:=zK1 (hJ.lok (xgf _)) (fun a ha hn=>by rw[zFw (hJ.zero a ha hn)];decide);have hf:=zKc hJ hr hl;refine⟨v,L.length,_,_,rfl,hf.lat,?_,hb⟩;rw[zIB (n:=L.length) sI]at hv;have e:genM L.length C (fun a b=>y.s ((L.map (·.1)).getD a 0) b)=genM L.length C fun a b=>y.s (zGM R C y.s L a) b:=zAM fun i hi j _=>by
  rw[zF3 hi];unfold zBs;rw[xgb,List.getElem?_map,xgb,xga hi];rfl
 rw[e]at hv;exact hv
theorem zQ5(hR:R<=6)(hC:C<=3):esr C R<=34:=by
 have h:∀R,R<7->∀C,C<4->esr C R<=34:=by decide
 exact h R oM C oM
theorem zVi(h1:1<=h)(he:2*h<=2^e)(he2:e<=2000)(v:Value)(M:List (List Int))(R C:Nat)(w:World)(hm:zAO w v R C M)(hF:zBc R C M)(hR:R<=6)(hC:C<=3)(hA:leM h R C (ent M)):
  Calls Tryz.prog 59 #[v] w fun e w'=>∃v,e= .returned v/\zHf R C (ent M) w' v/\Below w.heap.size w w':=
 (zPC (q:=C) h1 v M R C w hm.off hF hR oM (zJ (zEL h1 (zQ5 hR hC)) (zOA (k:=34) he (by rw[zEH];omega))) hA (zU8 fun k hk=>hk.cols)).mono fun e w' ⟨v,r,c,H,h2,hl,hm,hb⟩=>⟨v,h2,⟨r,c,H,hl,hm⟩,hb⟩
def rest(R C:Nat)(H:Nat->Nat->Int)(x:Nat->Int):Nat->Int:=zEm C H x R
def zXc(r:Nat)(c:Nat->Nat)(H:Nat->Nat->Int)(y:Nat->Int):Prop:=∀s,s<r->0<=y (c s)/\y (c s)<H s (c s)
section
variable {n C r:Nat} {c:Nat->Nat} {H:Nat->Nat->Int}
theorem zR7(hH:Hnf C n r c H)(hi:i<r)(y:Nat->Int):quo C H y i=y (c i)/H i (c i):=by
 unfold quo;rw[hH.ech.lead hi,if_neg oM];rfl
theorem zNc(hH:Hnf C n r c H)(h1:r<=i)(h2:i<n)(y:Nat->Int):quo C H y i=0:=by
 unfold quo;rw[zFw (hH.zero i h1 h2),if_pos oM]
theorem zL8(C:Nat)(H:Nat->Nat->Int)(x:Nat->Int)(i b:Nat):zEm C H x i b=x b+qH i fun s=>-(zFV C H x s)*H s b:=by
 induction i with
 |zero=>simp[zEm,qH]
 |succ i ih=>
  show zEm C H x i b+-(zFV C H x i)*H i b=_;rw[ih];exact Int.add_assoc _ _ _
theorem zT9(hH:Hnf C n r c H)(x:Nat->Int):∀i,i<=r->zXc i c H (zEm C H x i):=by
 intro i;induction i with
 |zero=>intro _ s hs;omega
 | succ i ih=>
  intro hi s hs;have hq:zFV C H x i=zEm C H x i (c i)/H i (c i):=zR7 hH oM _;have he:zEm C H x (i+1) (c s)=zEm C H x i (c s)+-(zFV C H x i)*H i (c s):=rfl;rw[he];by_cases e:s=i
  ·subst e
   have hp:=hH.ech.pos s oM;have h1:=zAt (zEm C H x s (c s)) (show H s (c s)≠0 by omega);have h2:=zA2 (zEm C H x s (c s)) hp;have h3:=Int.emod_def (zEm C H x s (c s)) (H s (c s));rw[hq,yD,qL (zEm C H x s (c s)/H s (c s))];omega
  have h1:=ih oM s oM;rw[hH.ech.zero i oM (c s) (hH.ech.inc s i oM oM),zZ,jZ];exact h1
theorem zSJ(hH:Hnf C n r c H)(x:Nat->Int):∀d b,r+d<=n->zEm C H x (r+d) b=zEm C H x r b:=by
 intro d b;induction d with
 |zero=>intro _;rfl
 |succ d ih=>
  intro hd;have hq:zFV C H x (r+d)=0:=zNc hH oM oM _;show zEm C H x (r+d) b+-(zFV C H x (r+d))*H (r+d) b=_;rw[hq,ih oM];simp
theorem zUA(hH:Hnf C n r c H)(x:Nat->Int):zXc r c H (rest n C H x):=by
 intro s hs;have h:=zT9 hH x r (xgf _) s hs;have e:rest n C H x (c s)=zEm C H x r (c s):=by
  have:=zSJ hH x (n-r) (c s) (by have:=hH.le;omega);rwa[show r+(n-r)=n by have:=hH.le;omega]at this
 rw[e];exact h
theorem zNh(hH:Hnf C n r c H){y':Nat->Int}(h1:zXc r c H y)(h2:zXc r c H y')(h:∀b,b<C->y b-y' b=qH n fun t=>z t*H t b):∀b,b<C->y b=y' b:=by
 have h':∀b,b<C->y b-y' b=qH r fun t=>z t*H t b:=fun b hb=>by
  rw[h b hb];exact zEh hH.le fun t a1 a2=>by rw[hH.zero t a1 a2 b hb,zZ]
 have hz:∀t,t<r->z t=0:=fun t ht=>zM fun hne=>by
  obtain⟨t,ht,h0,hb⟩:=zH7 ⟨t,ht,hne⟩;have e:=h' (c t) (hH.ech.lt t ht);rw[zKU hH.ech ht hb]at e;have a1:=h1 t ht;have a2:=h2 t ht;have hp:=hH.ech.pos t ht;have hle:(H t (c t)).natAbs<=(z t*H t (c t)).natAbs:=by
   rw[qZ];exact qK _ (Int.natAbs_pos.2 h0)
  rw[<-e]at hle;omega
 intro b hb;have e:=h' b hb;rw[zBf fun t ht=>by rw[hz t ht,yB]]at e;omega
theorem zSK(hH:Hnf C n r c H)(h:∀b,b<C->x b=qH n fun t=>z t*H t b):∀b,b<C->rest n C H x b=0:=
 zNh hH (zUA hH x) (y':=fun _=>0) (fun s hs=>⟨zDo _,hH.ech.pos s hs⟩) (z:=fun t=>z t+-(zFV C H x t)) fun b hb=>by
  have e1:rest n C H x b=_:=zL8 C H x n b;rw[e1,h b hb,Int.sub_zero,<-zBj];exact zL fun t _=>by rw[zBk]
end
theorem zIP(a b:Int):(a/b).natAbs<=a.natAbs:=zBg a b
theorem Hnf.congr(h:Hnf C n r c F)(e:∀a,a<n->∀b,b<C->F a b=G a b):Hnf C n r c G:=by
 have hl:=h.le;refine⟨h.le,⟨h.ech.lt,fun k hk=>?_,fun k hk t ht=>?_,h.ech.inc⟩,fun i j hij hj _=>?_,fun a h1 h2 t ht=>?_⟩;rw[<-e k oM _ (h.ech.lt k hk)];exact h.ech.pos k hk;rw[<-e k oM t (by have:=h.ech.lt k hk;omega)];exact h.ech.zero k hk t ht;rw[<-e i oM _ (h.ech.lt j hj),<-e j oM _ (h.ech.lt j hj)];exact h.red i j hij hj trivial;rw[<-e a h2 t ht];exact h.zero a h1 h2 t ht
theorem zSI(hH:Hnf C n r c H)(hh:leM h n C H)(hx:∀b,b<C->(x b).natAbs<=m):
  ∀i,i<=n->∀b,b<C->(zEm C H x i b).natAbs<=m*(1+h)^i:=by
 intro i;induction i with
 |zero=>intro _ b hb;simpa[zEm]using hx b hb
 | succ i ih=>
  intro hi b hb;have h1:=ih oM b hb;have hq:(zFV C H x i).natAbs<=m*(1+h)^i:=by
   by_cases hr:i<r
   ·show(quo C H (zEm C H x i) i).natAbs<=_
    rw[zR7 hH hr];exact zB (zIP _ _) (ih oM _ (hH.ech.lt i hr))
   show(quo C H (zEm C H x i) i).natAbs<=_;rw[zNc hH oM oM];simp
  show(zEm C H x i b+-(zFV C H x i)*H i b).natAbs<=_;have h2:(-(zFV C H x i)*H i b).natAbs<=m*(1+h)^i*h:=by
   rw[qZ,zT];exact qT hq (hh i oM b hb)
  refine zB (Int.natAbs_add_le _ _) (zB (zDh h1 h2) ?_);rw[qF,<-zC,zAF,zAn];exact xgf _
theorem zSH(hH:Hnf C n r c H)(hh:leM h n C H)(hx:∀b,b<C->(x b).natAbs<=m)(hi:i<n):(zFV C H x i).natAbs<=m*(1+h)^i:=by
 by_cases hr:i<r
 ·show(quo C H (zEm C H x i) i).natAbs<=_
  rw[zR7 hH hr];exact zB (zIP _ _) (zSI hH hh hx i oM _ (hH.ech.lt i hr))
 show(quo C H (zEm C H x i) i).natAbs<=_;rw[zNc hH oM hi];simp
theorem zU4(h:a<=2^199):a<BD:=by
 have h1:2^200<=B32^zSy:=zF4 (by rw[zEH];omega);rw[zS5];exact zJ h (zH dE h1)
theorem zR0(h:a<=2^e)(he:e<=100000):a<BD:=by
 have h1:2^(e+1)<=B32^zSy:=zF4 (by rw[zEH];omega);rw[zS5];exact zJ h (zH (Nat.pow_lt_pow_right oM (zAk e)) h1)
theorem zWL(hm:m<=2^e)(hh:1+h<=2^e):m*(1+h)^i<=2^(e*(i+1)):=by
 have h1:(1+h)^i<=(2^e)^i:=jB hh i;rw[<-jS]at h1;refine zB (qT hm h1) ?_;rw[<-yQ,Nat.mul_succ,zDQ];exact xgf _
theorem zRq(hH:Hnf C n r c H)(hn:n<=4)(he:e<=10000)(hm:m<=2^e)(h1:1+h<=2^e)(hh:leM h n C H)(hx:∀b,b<C->(x b).natAbs<=m):zX6 BD n C H x:=by
 have hg:∀i,i<=5->m*(1+h)^i<BD:=fun i hi=>zR0 (zWL hm h1) (by have:e*(i+1)<=10000*6:=qT he oM;omega)
 refine⟨fun a ha b hb=>zJ (hh a ha b hb) (zR0 (e:=e) oM oM),fun i hi b hb=>zJ (zSI hH hh hx i hi b hb) (hg i oM),fun i hi=>⟨zJ (zSH hH hh hx hi) (hg i oM),fun b hb=>zJ ?_ (hg (i+1) oM)⟩⟩;rw[qZ,zT];refine zB (qT (zSH hH hh hx hi) (hh i hi b hb)) ?_;rw[qF,<-zC];exact zF _ oM
theorem zL7(h:rest n C H x b=0):x b=qH n fun t=>zFV C H x t*H t b:=by
 have e:rest n C H x b=_:=zL8 C H x n b;have e2:(qH n fun s=>-(zFV C H x s)*H s b)+(qH n fun t=>zFV C H x t*H t b)=0:=by
  rw[<-zBj];have:(qH n fun t=>-(zFV C H x t)*H t b+zFV C H x t*H t b)=qH n fun _=>0:=zL fun t _=>by rw[yD];omega
  rw[this];exact zBf fun _ _=>rfl
 omega
theorem zL9(hH:Hnf C n r c H)(x:Nat->Int):(∀b,b<C->rest n C H x b=0)↔yC n C H x:=
 ⟨fun h=>⟨fun t=>zFV C H x t,fun b hb=>zL7 (h b hb)⟩,fun⟨_,h⟩=>zSK hH h⟩
structure HNw(m C e:Nat)(M:List (List Int)):Prop where
 fit:zBc m C M
 hnf:∃r c,Hnf C m r c (ent M)
 bd:leM (2^e-1) m C (ent M)
theorem HNw.ok(h:HNw m C e M)(hm:m<=4)(he:e<=10000)(hk:k<=2^e)(hx:∀b,b<C->(x b).natAbs<=k):zX6 BD m C (ent M) x:=by
 obtain⟨r,c,hH⟩:=h.hnf;have hp:1<=2^e:=qP oM;exact zRq hH hm he hk oM h.bd hx
theorem HNw.ans(h:HNw m C e M)(x:Nat->Int):decide (∀z∈yL C (zEm C (ent M) x m),z=0)=true↔yC m C (ent M) x:=by
 obtain⟨r,c,hH⟩:=h.hnf;rw[decide_eq_true_iff,<-zL9 hH x];constructor
 ·intro h b hb
  exact h _ (xgd (yE hb))
 intro h z hz;obtain⟨b,hb,e⟩:=qS hz;rw[qC]at hb;have e2:(yL C (zEm C (ent M) x m))[b]?=some z:=by rw[xga (by rw[qC];exact hb),e]
 rw[yE hb]at e2;injection e2 with e2
 rw[<-e2];exact h b hb
theorem zJx(hv vv:Value)(M:List (List Int))(x:Nat->Int)(w:World)(h:zAO w hv m C M)(hH:HNw m C e M)(hx:zBm w vv (yL C x))(hm:m<=4)(hC:C<=1000000)(he:e<=10000)(hk:k<=2^e)(hb:∀b,b<C->(x b).natAbs<=k){ans:Bool}(hans:ans=true↔yC m C (ent M) x):
  Calls Tryz.prog 87 #[hv,vv] w fun e w'=>∃v,e= .returned v/\v= .bool ans/\Below w.heap.size w w':=by
 have h0:=xgv h;obtain⟨A,rfl,h⟩:=h;obtain⟨ao,n,cap,rfl,-⟩:=id h;obtain⟨xo,xn,xc,rfl,-⟩:=id hx;have hD:decide (∀z∈yL C (zEm C (ent M) x m),z=0)=ans:=Bool.eq_iff_iff.2 ((hH.ans x).trans hans.symm);have HD:=xgv hD;have HOK:=xgv (hH.ok hm he hk hb);have HF:=xgv hH.fit;have HX:=xgv hx;have HB:=xgv (zU4 (a:=0) dE);clear h hx hD hH hb hans hk;go_enter Tryz.func87,Tryz.ntmps87;go_upto_region 1 with(fail)
 refine zD ?_;intro W0 hW0;obtain⟨hB0,bx,hs0⟩:=qM hW0;obtain⟨c1,c2,c3,c4,c5,c6⟩:=bx.three;clear hW0;go_wp2_with fail
 refine(zHm zJX _ _ m C M x W0 (h0.out.below hB0) HF.out (HX.out.below hB0) oM hC HOK.out HB.out).mono ?_;rintro e w1 ⟨qv,rv,rfl,hq,hr,hb1⟩;have hB:=nx hB0 hb1;clear c1 c2 c3 c4 c5 c6;obtain⟨ro,rn,rc,rfl,-⟩:=id hr;obtain⟨qo,qn,qc,rfl,-⟩:=id hq;go_wp2_with fail
 refine(zLx _ _ w1 hr).mono ?_;rintro e w2 ⟨rfl,hb2⟩;rw[HD.out];have hB2:=nx hB hb2;go_wp2;go_ret;exact⟨_,rfl,rfl,hB2⟩
theorem zGe(av hv:Value)(N M:List (List Int))(w:World)(ha:zAO w av R C N)(hF:zBc R C N)(h:zAO w hv m C M)(hH:HNw m C e M)(hm:m<=4)(hR:R<=1000000)(hC:C<=1000000)(he:e<=10000)(hk:k<=2^e)(hb:leM k R C (ent N)){ans:Bool}(hans:ans=true↔∀i,i<R->yC m C (ent M) (ent N i)):
  Calls Tryz.prog 69 #[av,hv] w fun e w'=>∃v,e= .returned v/\v= .bool ans/\Below w.heap.size w w':=by
 have H0:=xgv h;obtain⟨A,rfl,h⟩:=h;obtain⟨ao,n,cap,rfl,-⟩:=id h;obtain⟨A2,rfl,h2⟩:=ha;obtain⟨bo,n2,bcap,rfl,e2,-⟩:=id h2;obtain rfl:R=n2:=by rw[<-e2,hF.1]
 have HH:=xgv hH;have HF:=xgv hF;have HN:=xgv h2;have HK:=xgv hk;have HB:=xgv hb;have HS:=xgv hans;clear h h2 hH hF hk hb hans e2;go_enter Tryz.func69,Tryz.ntmps69;go_upto_region 1 with(fail)
 refine zD ?_;intro W0 hW0;obtain⟨hB0,bx1,bx2,hs0⟩:=zAd hW0;obtain⟨c1,c2,c3,c4,c5,c6⟩:=bx1.three;clear hW0;go_wp2;go_loopw [10] (fun iv wr=>∃i:Nat,i<=R/\iv= .int .i64 i/\Below w.heap.size w wr/\Blk wr (w.heap.size+1) 32 #[.int .i64 m,.int .i64 C,.slice ao n cap]/\zAN (∀a,a<i->yC m C (ent M) (ent N a))) (fun iv _=>R-(intOf iv).toNat)
 case atStart=>exact⟨0,by omega,rfl,hB0,bx2,⟨fun a ha=>by omega⟩⟩
 obtain⟨i,hi,rfl,hb,bx2,hz⟩:=hrel;by_cases hlt:i<R
 ·obtain⟨b,ra,rn,rc,zs,rfl,hbl,hzk,q1,hzv⟩:=(HN.out.below hb).row (k:=i) (by rw[HF.out.1];exact hlt)
  have hzv:zBm wr (.slice ra rn rc) (yL C (ent N i)):=by rw[<-HF.out.row_eq hzk];exact hzv
  obtain⟨d1,d2,d3,d4,d5,d6⟩:=bx2.three;obtain⟨a1,ha1⟩:∃a1:Bool,a1=true↔yC m C (ent M) (ent N i):=by
   by_cases hp:yC m C (ent M) (ent N i)
   ·exact⟨true,by simp[hp]⟩
   exact⟨false,by simp[hp]⟩
  have HA1:=xgv ha1;clear hzk ha1;go_wp2_with fail
  refine(zJx _ _ M (ent N i) wr (H0.out.below hb) HH.out hzv hm hC he HK.out (fun b hb=>HB.out i hlt b hb) HA1.out).mono ?_;rintro e w2 ⟨v,rfl,rfl,hb2⟩;have hb':=nx hb hb2;have bx2:=bx2.below hb2;clear d1 d2 d3 d4 d5 d6 q1;cases a1 with
  | true=>
   go_wp2;go_roundw
   case rel=>
    refine⟨i+1,by omega,by simp,hb',bx2,⟨fun a ha=>?_⟩⟩;rcases zG a i with h1|h1
    exact hz.out a h1;obtain rfl:a=i:=by omega
    have:=HA1.out;simpa using this
   case measure=>simp[intOf];omega
  | false=>
   have hf:ans=false:=by
    cases ans with
    |false=>rfl
    |true=>exact absurd (HA1.out.2 (HS.out.1 rfl i hlt)) dE
   subst hf;go_wp2;go_ret;exact⟨_,rfl,rfl,hb'⟩
 obtain rfl:i=R:=by omega
 have hf:ans=true:=HS.out.2 hz.out;subst hf;go_wp2;go_ret;exact⟨_,rfl,rfl,hb⟩
abbrev tBm:TypeId:=93
abbrev tCn:TypeId:=90
theorem Tryz.sizeBm:(Tryz.prog.info? tBm).map (·.size)=some 6:=by kernel_rfl
theorem Tryz.sizeCn:(Tryz.prog.info? tCn).map (·.size)=some 2:=by kernel_rfl
section
variable {w:World} {g:Nat} {t:TypeId} {c0 c1 c2 c3 c4 c5:Value}
theorem Blk.put6(h:Blk w g t #[c0,c1,c2,c3,c4,c5])(x0 x1 x2 x3 x4 x5:Value):Blk ((((((w.setCell ⟨g,0,none⟩ x0).setCell ⟨g,1,none⟩ x1).setCell ⟨g,2,none⟩ x2).setCell ⟨g,3,none⟩ x3).setCell ⟨g,4,none⟩ x4).setCell ⟨g,5,none⟩ x5) g t #[x0,x1,x2,x3,x4,x5]:=by
 simpa using(((((h.set_ 0 x0).set_ 1 x1).set_ 2 x2).set_ 3 x3).set_ 4 x4).set_ 5 x5
theorem Blk.lext6(h:Blk w g t cs)(hne:t≠tU)(x0 x1 x2 x3 x4 x5:Value):zBq w ((((((w.setCell ⟨g,0,none⟩ x0).setCell ⟨g,1,none⟩ x1).setCell ⟨g,2,none⟩ x2).setCell ⟨g,3,none⟩ x3).setCell ⟨g,4,none⟩ x4).setCell ⟨g,5,none⟩ x5):=
 (h.lext3 hne x0 x1 x2).trans ((((h.set_ 0 x0).set_ 1 x1).set_ 2 x2).lext hne 3 _|>.trans (((((h.set_ 0 x0).set_ 1 x1).set_ 2 x2).set_ 3 x3).lext hne 4 _|>.trans ((((((h.set_ 0 x0).set_ 1 x1).set_ 2 x2).set_ 3 x3).set_ 4 x4).lext hne 5 _)))
theorem zUG(w:World)(g k:Nat)(x0 x1 x2 x3 x4 x5:Value)(hk:k≠g):((((((w.setCell ⟨g,0,none⟩ x0).setCell ⟨g,1,none⟩ x1).setCell ⟨g,2,none⟩ x2).setCell ⟨g,3,none⟩ x3).setCell ⟨g,4,none⟩ x4).setCell ⟨g,5,none⟩ x5).heap[k]?=w.heap[k]?:=
 (zW _ g 5 k _ hk).trans ((zW _ g 4 k _ hk).trans ((zW _ g 3 k _ hk).trans (zAe w g k x0 x1 x2 hk)))
theorem zWq{B:Nat}{a:World}(h:Below B a w)(hp:B<=g)(x0 x1 x2 x3 x4 x5:Value):Below B a ((((((w.setCell ⟨g,0,none⟩ x0).setCell ⟨g,1,none⟩ x1).setCell ⟨g,2,none⟩ x2).setCell ⟨g,3,none⟩ x3).setCell ⟨g,4,none⟩ x4).setCell ⟨g,5,none⟩ x5):=yJ (yJ (yJ (yJ (yJ (yJ h hp _ _) hp _ _) hp _ _) hp _ _) hp _ _) hp _ _
theorem zAO.keep6{R C:Int}(h:zAO w v R C M)(hb:Blk w g t cs)(h1:t≠tR)(h2:t≠tI)(h3:t≠tU)(x0 x1 x2 x3 x4 x5:Value):zAO ((((((w.setCell ⟨g,0,none⟩ x0).setCell ⟨g,1,none⟩ x1).setCell ⟨g,2,none⟩ x2).setCell ⟨g,3,none⟩ x3).setCell ⟨g,4,none⟩ x4).setCell ⟨g,5,none⟩ x5) v R C M:=by
 obtain⟨A,rfl,h⟩:=h;exact⟨A,rfl,h.off hb h1 h2 (fun k hk=>zUG _ _ k _ _ _ _ _ _ hk) (hb.lext6 h3 _ _ _ _ _ _)⟩
end
theorem zEK(b1 b2 R C Q D:Nat)(A1 A2:Value)(M N:List (List Int))(w:World)(h1:zAO w (.agg #[.int .i64 R,.int .i64 C,A1]) R C M)(hF1:zBc R C M)(h2:zAO w (.agg #[.int .i64 Q,.int .i64 D,A2]) Q D N)(hF2:zBc Q D N)
  (k1:Blk w b1 32 #[.int .i64 R,.int .i64 C,A1]) (k2:Blk w b2 32 #[.int .i64 Q,.int .i64 D,A2]) {ans:Bool} (hans:((C:Int)==(D:Int))=ans):
  Calls Tryz.prog 96 #[.pointer (some ⟨b1,0,none⟩),.pointer (some ⟨b2,0,none⟩)] w fun e w'=>∃v,e= .returned v/\v= .bool ans/\Below w.heap.size w w':=by
 have H1:=xgv h1;have H2:=xgv h2;have HF1:=xgv hF1;have HF2:=xgv hF2;clear h1 h2 hF1 hF2;obtain⟨c1,c2,c3,c4,c5,c6⟩:=k1.three;go_enter Tryz.func96,Tryz.ntmps96;go_wp2_with fail
 refine(zKv _ R C M w H1.out HF1.out).mono ?_;rintro e w1 ⟨v,rfl,rfl,hb1⟩;have k1:=k1.below hb1;have k2:=k2.below hb1;clear c1 c2 c3 c4 c5 c6;obtain⟨d1,d2,d3,d4,d5,d6⟩:=k2.three;go_wp2_with fail
 refine(zKv _ Q D N w1 (H2.out.below hb1) HF2.out).mono ?_;rintro e w2 ⟨v,rfl,rfl,hb2⟩;have k1:=k1.below hb2;have k2:=k2.below hb2;clear d1 d2 d3 d4 d5 d6;obtain⟨c1,c2,c3,c4,c5,c6⟩:=k1.three;obtain⟨d1,d2,d3,d4,d5,d6⟩:=k2.three;go_wp2;go_ret;refine⟨_,rfl,?_,nx hb1 hb2⟩;rw[<-hans];rfl
theorem zFB(x1 x2 x3 y1 y2 y3:Value)(w:World):
  Calls Tryz.prog 57 #[.agg #[x1,x2,x3],.agg #[y1,y2,y3]] w fun e w'=>e= .returned (.agg #[.func (.func 96) #[] #[.pointer (some ⟨w.heap.size,0,none⟩),.pointer (some ⟨w.heap.size+1,0,none⟩)],.int .i64 50])∧
   Blk w' w.heap.size 32 #[x1,x2,x3]/\Blk w' (w.heap.size+1) 32 #[y1,y2,y3]/\Below w.heap.size w w':=by
 have hmf:∀(fn:Fn) (first cap:Array Value) (w:World),(Instr.makeFunc fn first cap).run Tryz.prog w= .ok (.func fn first cap) w:=fun _ _ _ _=>rfl
 go_enter Tryz.func57,Tryz.ntmps57;go_upto_region 1 with(fail)
 refine zD ?_;intro W0 hW0;obtain⟨hB0,bx1,bx2,br,hs0⟩:=zCH hW0;clear hW0;have q1:=br.lt;obtain⟨r1,r2,r3,r4⟩:=br.two;go_wp2;refine bodyPost_ret (results_cell_row rfl _ _ (w.heap.size+1+1) _ _ _ _ rfl (br.put2 _ _) Tryz.underlying90 rfl (by rw[Tryz.sizeCn];rfl)) rfl ⟨rfl,(yS _ _ 0 1 _ _ _ oM).trans bx1,(yS _ _ 0 1 _ _ _ oM).trans bx2,yJ (yJ hB0 oM 0 _) oM 1 _⟩
theorem zDE{g:FuncId}(hg:g=96∨g=77)(caps:Array Value)(b c:Nat)(er:Int)(w:World)(hb:Blk w b tCn #[.func (.func g) #[] caps,.int .i64 er]){ans:Bool}{k:Int}(hk:(if ans=true then 0 else er)=k)
  (hc:∀(W:World),Below w.heap.size w W->Calls Tryz.prog g caps W fun e w'=>∃v,e= .returned v/\v= .bool ans/\Below W.heap.size W w'):
  Calls Tryz.prog 56 #[.slice (some ⟨b,0,none⟩) 1 c] w fun e w'=>∃v,e= .returned v/\v= .int .i64 k/\Below w.heap.size w w':=by
 have HK:=xgv hk;clear hk;have HC:=xgv hc;clear hc;go_enter Tryz.func56,Tryz.ntmps56;go_wp2;go_loopw [7] (fun iv wr=>∃i:Nat,i<=1/\iv= .int .i64 i/\Below w.heap.size w wr/\zAN (i=1->ans=true)) (fun iv _=>1-(intOf iv).toNat)
 case atStart=>exact⟨0,by omega,rfl,zA _ _,⟨fun h=>by omega⟩⟩
 obtain⟨i,hi,rfl,hB,hz⟩:=hrel;by_cases h0:i=0
 ·subst h0
  have hb:=hb.below hB;obtain⟨q1,q2,q3,q4⟩:=hb.two;go_upto_region 4 with(fail)
  refine zD ?_;intro W1 hW1;obtain⟨hB1,T4,hs1⟩:=qM hW1;obtain⟨d1,d2,d3,d4⟩:=T4.two;have hB':=nx hB hB1;have HC:=xgv (HC.out W1 hB');clear q1 q2 q3 q4 hW1;rcases hg with rfl|rfl<;>(
   go_wp2_with fail
   refine HC.out.mono ?_;rintro e w2 ⟨v,rfl,rfl,hb2⟩;have hB2:=nx hB' hb2;have T4:=T4.below hb2;clear d1 d2 d3 d4;obtain⟨d1,d2,d3,d4⟩:=T4.two;cases ans with
   |true=>
    go_wp2;go_roundw
    case rel=>exact⟨1,by omega,by simp,hB2,⟨by simp⟩⟩
    case measure=>simp[intOf]
   |false=>
    go_wp2;go_ret;exact⟨_,rfl,by rw[<-HK.out];rfl,hB2⟩)
 obtain rfl:i=1:=by omega
 have ht:=hz.out rfl;subst ht;go_wp2;go_ret;exact⟨_,rfl,by rw[<-HK.out];rfl,hB⟩
theorem zFy(v1 v2:Value)(R C Q D:Nat)(M N:List (List Int))(w:World)(h1:zAO w v1 R C M)(h2:zAO w v2 Q D N)
  (k1:∀(v:Value) (w:World),zAO w v R C M->Calls Tryz.prog 59 #[v] w fun e w'=>∃v,e= .returned v/\zHf R C (ent M) w' v/\Below w.heap.size w w')
  (k2:∀(v:Value) (w:World),zAO w v Q D N->Calls Tryz.prog 59 #[v] w fun e w'=>∃v,e= .returned v/\zHf Q D (ent N) w' v/\Below w.heap.size w w'):
  Calls Tryz.prog 61 #[v1,v2] w fun e w'=>∃(r1:Nat) (o1:Option Addr) (n1 c1:Nat) (r2:Nat) (o2:Option Addr) (n2 c2:Nat),e= .returned (.agg #[.int .i64 r1,.int .i64 C,.slice o1 n1 c1,.int .i64 r2,.int .i64 D,.slice o2 n2 c2])/\zHf R C (ent M) w' (.agg #[.int .i64 r1,.int .i64 C,.slice o1 n1 c1])/\zHf Q D (ent N) w' (.agg #[.int .i64 r2,.int .i64 D,.slice o2 n2 c2])/\Below w.heap.size w w':=by
 have H1:=xgv h1;have H2:=xgv h2;obtain⟨A1,rfl,h1⟩:=h1;obtain⟨A2,rfl,h2⟩:=h2;obtain⟨ao,n1,cap,rfl,-⟩:=id h1;obtain⟨bo,n2,bcap,rfl,-⟩:=id h2;have K1:=xgv k1;have K2:=xgv k2;clear h1 h2 k1 k2;go_enter Tryz.func61,Tryz.ntmps61;go_upto_region 1 with(fail)
 refine zD ?_;intro W0 hW0;obtain⟨hB0,bx1,bx2,br,hs0⟩:=zCH hW0;obtain⟨c1,c2,c3,c4,c5,c6⟩:=bx1.three;obtain⟨d1,d2,d3,d4,d5,d6⟩:=bx2.three;clear hW0;have hl1:=zHJ R C (ent M);have hl2:=zHJ Q D (ent N);refine yX 4 [pcD 1 [] (zHf R C (ent M)),pcD 3 [] (zHf Q D (ent N))] ?_;refine sRd ?_;refine sRc (fun wS hI Gk hG=>by go_simp;exact ck hG (K1.out _ _ ((H1.out.below hB0).below hI.bel))) (fun va1 _=>?_);refine sRd ?_;refine sRc (fun wS hI Gk hG=>by go_simp;exact ck hG (K2.out _ _ ((H2.out.below hB0).below hI.bel))) (fun va3 _=>?_);refine sRe ?_;intro w2 hbw2 ha1 ha3;obtain⟨r1,κ1,G1,hl1,hm1⟩:zHf R C (ent M) w2 va1:=ha1;obtain⟨r2,κ2,G2,hl2,hm2⟩:zHf Q D (ent N) w2 va3:=ha3;obtain⟨x1,x2,x3,rfl⟩:=hm1.agg;obtain⟨y1,y2,y3,rfl⟩:=hm2.agg;have br:=br.below hbw2;have hB2:=nx hB0 hbw2;clear c1 c2 c3 c4 c5 c6 d1 d2 d3 d4 d5 d6;obtain⟨q1,q2,q3,q4,q5,q6⟩:=br.six;have z0:=br.frozen 0;have z1:=br.frozen 1;have z2:=br.frozen 2;have z3:=br.frozen 3;have z4:=br.frozen 4;have z5:=br.frozen 5;have HL1:=xgv hl1;have HL2:=xgv hl2;have HM1:=xgv hm1;have HM2:=xgv hm2;clear hl1 hl2 hm1 hm2;go_wp2;refine bodyPost_ret (results_cell_row rfl _ _ (w.heap.size+1+1) _ _ _ _ rfl (br.put6 _ _ _ _ _ _) Tryz.underlying93 rfl (by rw[Tryz.sizeBm];rfl)) rfl ⟨_,_,_,_,_,_,_,_,rfl,⟨_,_,_,HL1.out,HM1.out.keep6 br dE dE dE _ _ _ _ _ _⟩,⟨_,_,_,HL2.out,HM2.out.keep6 br dE dE dE _ _ _ _ _ _⟩,zWq hB2 oM _ _ _ _ _ _⟩
def zXY(x1 x2 x3 y1 y2 y3:Value):World->Value->Prop:=fun w v=>∃p q,v= .agg #[.func (.func 96) #[] #[.pointer (some ⟨p,0,none⟩),.pointer (some ⟨q,0,none⟩)],.int .i64 50]/\Blk w p 32 #[x1,x2,x3]/\Blk w q 32 #[y1,y2,y3]
def zYI(x1 x2 x3 y1 y2 y3:Value):World->Value->Prop:=fun w v=>∃g p q,v= .slice (some ⟨g,0,none⟩) 1 1/\Blk w g tCn #[.func (.func 96) #[] #[.pointer (some ⟨p,0,none⟩),.pointer (some ⟨q,0,none⟩)],.int .i64 50]/\Blk w p 32 #[x1,x2,x3]/\Blk w q 32 #[y1,y2,y3]
theorem zM8(x1 x2 x3 y1 y2 y3:Value):zAQ (zXY x1 x2 x3 y1 y2 y3):=fun _ _ _ e ⟨p,q,h1,h2,h3⟩=>⟨p,q,h1,h2.below e,h3.below e⟩
theorem zM7(x1 x2 x3 y1 y2 y3:Value):zAQ (zYI x1 x2 x3 y1 y2 y3):=fun _ _ _ e ⟨g,p,q,h1,h2,h3,h4⟩=>⟨g,p,q,h1,h2.below e,h3.below e,h4.below e⟩
theorem zXu(x1 x2 x3 y1 y2 y3:Value)(w:World):
  Calls Tryz.prog 57 #[.agg #[x1,x2,x3],.agg #[y1,y2,y3]] w fun e w'=>∃v,e= .returned v/\zXY x1 x2 x3 y1 y2 y3 w' v/\Below w.heap.size w w':=
 (zFB x1 x2 x3 y1 y2 y3 w).mono fun e w' ⟨h1,h2,h3,h4⟩=>⟨_,h1,⟨_,_,rfl,h2,h3⟩,h4⟩
theorem zNN{D e k:Nat}(v1 v2:Value)(M N:List (List Int))(w:World)(h1:zAO w v1 R C M)(h2:zAO w v2 Q D N)(hF1:zBc R C M)(hF2:zBc Q D N)(hR:R<=1000000)(hC:C<=4)(hD:C=D)
  (k2:∀(v:Value) (w:World),zAO w v Q D N->Calls Tryz.prog 59 #[v] w fun e w'=>∃v,e= .returned v/\zHf Q D (ent N) w' v/\Below w.heap.size w w')
  (hw:∀r c G,zIN Q C r c (ent N) G->HNw r C e (genM r C G)) (he:e<=10000) (hk:k<=2^e) (hb:leM k R C (ent M)) {ans:Bool} (hans:ans=true↔∀i,i<R->yC Q C (ent N) (ent M i)):
  Calls Tryz.prog 25 #[v1,v2] w fun e w'=>∃v,e= .returned v/\v= .bool ans/\Below w.heap.size w w':=by
 subst hD;have H1:=xgv h1;have H2:=xgv h2;obtain⟨A1,rfl,h1⟩:=h1;obtain⟨A2,rfl,h2⟩:=h2;obtain⟨ao,n1,cap,rfl,-⟩:=id h1;obtain⟨bo,n2,bcap,rfl,-⟩:=id h2;have HF1:=xgv hF1;have HF2:=xgv hF2;have HN:=xgv hans;have K2:=xgv k2;have HW:=xgv hw;have HK:=xgv hk;have HB:=xgv hb;have HAA:zAN (((C:Int)==(C:Int))=true):=⟨by simp⟩;clear h1 h2 hF1 hF2 hans k2 hw hk hb;go_enter Tryz.func25,Tryz.ntmps25;go_upto_region 1 with(fail)
 refine zD ?_;intro W0 hW0;obtain⟨hB0,bx1,bx2,hs0⟩:=zAd hW0;obtain⟨c1,c2,c3,c4,c5,c6⟩:=bx1.three;obtain⟨d1,d2,d3,d4,d5,d6⟩:=bx2.three;clear hW0;have hl1:=zM8 (.int .i64 R) (.int .i64 C) (.slice ao n1 cap) (.int .i64 Q) (.int .i64 C) (.slice bo n2 bcap);have hl2:=zM7 (.int .i64 R) (.int .i64 C) (.slice ao n1 cap) (.int .i64 Q) (.int .i64 C) (.slice bo n2 bcap);have hl3:=zHJ Q C (ent N);refine zCn [pcD 2 [] (zXY (.int .i64 R) (.int .i64 C) (.slice ao n1 cap) (.int .i64 Q) (.int .i64 C) (.slice bo n2 bcap)),pcD 3 [2] (zYI (.int .i64 R) (.int .i64 C) (.slice ao n1 cap) (.int .i64 Q) (.int .i64 C) (.slice bo n2 bcap)),pcD 4 [3] (fun _ v=>v= .int .i64 0),pcD 9 [] (zHf Q C (ent N)),pcD 10 [9] (fun _ v=>v= .bool ans)] ?_;refine sRd ?_;refine sRc (fun wS hI Gk hG=>by go_simp;exact ck hG (zXu _ _ _ _ _ _ _)) (fun va2 _=>?_);refine sRc (fun wS hI ha2 Gk hG=>?_) (fun va3 _=>?_)
 ·obtain⟨p,q,rfl,b1,b2⟩:zXY (.int .i64 R) (.int .i64 C) (.slice ao n1 cap) (.int .i64 Q) (.int .i64 C) (.slice bo n2 bcap) wS va2:=ha2
  go_simp;exact⟨hG _ _ ⟨_,p,q,rfl,qQ _ _ _,b1.below ((zA _ _).alloc (xgf _) _),b2.below ((zA _ _).alloc (xgf _) _)⟩,(zA _ _).alloc (xgf _) _⟩
 refine sRc (fun wS hI ha3 Gk hG=>?_) (fun _ hv=>?_)
 ·obtain⟨g3,p3,q3,rfl,gb3,kp3,kq3⟩:=ha3
  go_simp;refine(zDE (.inl rfl) _ g3 1 50 _ gb3 (ans:=true) rfl (fun W hW=>zEK p3 q3 R C Q C _ _ M N W (((H1.out.below hB0).below hI.bel).below hW) HF1.out (((H2.out.below hB0).below hI.bel).below hW) HF2.out (kp3.below hW) (kq3.below hW) HAA.out)).mono ?_;rintro e wa ⟨v,rfl,hv,hba⟩;exact⟨_,rfl,hG _ _ hv,hba⟩
 obtain⟨_,-,rfl⟩:=hv;refine sRd ?_;refine sRc (fun wS hI Gk hG=>by go_simp;exact ck hG (K2.out _ _ ((H2.out.below hB0).below hI.bel))) (fun va9 _=>?_);refine sRc (fun wS hI ha9 Gk hG=>?_) (fun _ hv=>?_)
 ·obtain⟨r9,κ9,G9,l9,m9⟩:=ha9
  go_simp;refine(zGe _ _ M (genM r9 C G9) _ ((H1.out.below hB0).below hI.bel) HF1.out m9 (HW.out r9 κ9 G9 l9) (zB l9.hb.le_cols hC) hR oM he HK.out HB.out (HN.out.trans (forall_congr' fun i=>forall_congr' fun _=>(l9.hb.iff _).trans (yC.congr (fun a ha b hb=>(jM ha hb).symm) _)))).mono ?_;rintro e wa ⟨v,rfl,hv,hba⟩;exact⟨_,rfl,hG _ _ hv,hba⟩
 obtain⟨_,-,rfl⟩:=hv;refine sRd ?_;refine sRe ?_;intro w1 hbw1 ha2 ha3 _ ha9 _;have hB4:=nx hB0 hbw1;go_wp2;go_ret;exact⟨_,rfl,rfl,hB4⟩

def zEa(C:Nat)(M N:List (List Int))(i t:Nat):Int:=zFV C (ent M) (ent N i) t
theorem zOy(C m k:Nat)(M N:List (List Int))(j:Nat)(hj:j<k):(genM k m (zEa C M N)).take (j+1)=(genM k m (zEa C M N)).take j++ [yL m (zFV C (ent M) (ent N j))]:=by
 rw[yY];simp[genM,yL,hj,zEa]
theorem zLb(o1:Option Addr)(n1 c1:Nat)(o2:Option Addr)(n2 c2:Nat)(M N:List (List Int))(w:World)(h1:zAO w (.agg #[.int .i64 m,.int .i64 C,.slice o1 n1 c1]) m C M)(hH:HNw m C e M)(h2:zAO w (.agg #[.int .i64 k,.int .i64 C,.slice o2 n2 c2]) k C N)(hF:zBc k C N)(hm:m<=4)(hk:k<=1000000)(hC:C<=1000000)(he:e<=10000)(hh:h<=2^e)(hb:leM h k C (ent N)):
  Calls Tryz.prog 73 #[.agg #[.int .i64 m,.int .i64 C,.slice o1 n1 c1,.int .i64 k,.int .i64 C,.slice o2 n2 c2]] w fun e w'=>∃u,e= .returned u/\zAO w' u k m (genM k m (zEa C M N))/\Below w.heap.size w w':=by
 have H1:=xgv h1;obtain⟨A2,e2,h2⟩:=h2;injection e2 with e2
 simp only[Array.mk.injEq,List.cons.injEq]at e2;obtain⟨-,-,rfl,-⟩:=e2;have hn2:=h2.len;obtain rfl:k=n2:=by
  obtain⟨_,_,_,e,g1,-⟩:=id h2;injection e with _ e _
  rw[e,<-g1,hF.1]
 have H2:=xgv h2;have HH:=xgv hH;have HF:=xgv hF;have HHH:=xgv hh;have HB:=xgv hb;have HB0:=xgv (zU4 (a:=0) dE);obtain⟨T,hT⟩:∃T:Nat->List (List Int),∀j,(genM k m (zEa C M N)).take j=T j:=⟨_,fun _=>rfl⟩;have HT0:zAN (T 0= []):=⟨by rw[<-hT];rfl⟩;have HTS:zAN (∀j,j<k->T (j+1)=T j++ [yL m (zFV C (ent M) (ent N j))]):=⟨fun j hj=>by rw[<-hT,<-hT];exact zOy C m k M N j hj⟩;have HTE:zAN (T k=genM k m (zEa C M N)):=⟨by rw[<-hT];exact jE (by simp[genM])⟩;have HTL:zAN (∀j,j<=k->(T j).length=j):=⟨fun j hj=>by rw[<-hT,qD];simp[genM];omega⟩;clear h1 h2 hH hF hh hb hT hn2;go_enter Tryz.func73,Tryz.ntmps73;go_upto_region 1 with(fail)
 refine zD ?_;intro W0 hW0;obtain⟨hB0,bx,br,hs0⟩:=zAd hW0;obtain⟨q1,q2,q3,q4,q5,q6⟩:=bx.six;clear hW0;go_upto_region 2 with(fail)
 refine zD ?_;intro W1 hW1;obtain⟨hB1,T3,hs1⟩:=qM hW1;have bx:=bx.below hB1;have br:=br.below hB1;have hB:=nx hB0 hB1;have hlt0:=br.lt;clear hW1 q1 q2 q3 q4 q5 q6;obtain⟨q1,q2,q3,q4,q5,q6⟩:=bx.six;go_wp2;clear q1 q2 q3 q4 q5 q6;go_loopw [20] (fun jv wr=>∃j:Nat,j<=k/\jv= .int .i64 j/\∃o n c,Below w.heap.size w wr/\Blk wr w.heap.size tBm #[.int .i64 m,.int .i64 C,.slice o1 n1 c1,.int .i64 k,.int .i64 C,.slice o2 k c2]/\Blk wr (w.heap.size+1) 32 #[.int .i64 0,.int .i64 0,.slice none 0 0]∧
  Blk wr W0.heap.size 32 #[.int .i64 k,.int .i64 m,.slice o n c]/\RsO wr (W0.heap.size+1) (.slice o n c) (T j)) (fun jv _=>k-(intOf jv).toNat)
 case atStart=>exact⟨0,by omega,rfl,_,_,_,hB,bx,br,T3,by rw[HT0.out];exact⟨[],zB6 _ _ _ _,rfl,fun k _ _ h=>by simp at h⟩⟩
 obtain⟨j,hj,rfl,o,n,c,hb,bx,br,T3,hrs⟩:=hrel;by_cases hlt:j<k
 ·obtain⟨b,ra,rn,rc,zs,rfl,hbl,hzk,p1,hzv⟩:=(H2.out.below hb).row (k:=j) (by rw[HF.out.1];exact hlt)
  have hzv:zBm wr (.slice ra rn rc) (yL C (ent N j)):=by rw[<-HF.out.row_eq hzk];exact hzv
  have HZ:=xgv hzv;clear hzk hzv;obtain⟨q1,q2,q3,q4,q5,q6⟩:=bx.six;go_wp2_with fail
  refine(zHm zJX _ _ m C M (ent N j) wr (H1.out.below hb) HH.out.fit HZ.out oM hC (HH.out.ok hm he HHH.out (fun b hb=>HB.out j hlt b hb)) HB0.out).mono ?_;rintro e w1 ⟨qv,rv,rfl,hq,hr,hb1⟩;obtain⟨ro,rn',rc',rfl,-⟩:=id hr;obtain⟨qo,qn,qc,rfl,-⟩:=id hq;have hb':=nx hb hb1;have bx:=bx.below hb1;have br:=br.below hb1;have T3:=T3.below hb1;have hrs:=hrs.below hb1;have HQ:=xgv hq;have HOO:=xgv hrs.own;have HRS:=xgv hrs;have l3:=T3.lt;have lx1:=bx.lt;have lbr:=br.lt;have hd:=HTS.out j hlt;have hlen:=HTL.out j oM;have HD:=xgv hd;have HLN:=xgv hlen;clear q1 q2 q3 q4 q5 q6 hq hr hrs p1 hd hlen;obtain⟨t1,t2,t3,t4,t5,t6⟩:=T3.three;go_wp2_with (at_builtin;go_loud (refine zVP rfl _ _ rfl (W0.heap.size+1) (.slice o n c) (T j) rfl (HRS.out.below ((zA _ _).alloc (xgf _) _)) _ [yL m (zFV C (ent M) (ent N j))] rfl (zK4 HQ.out) (by rw[HLN.out];simp;omega) (by simp;omega) ?_;intro v' w' hown hgr hlx;have hb5:Below w1.heap.size w1 (w1.alloc (.cells #[.slice qo qn qc] 46)):=(zA _ _).alloc (xgf _) _;have T3w:Blk w' W0.heap.size 32 #[.int .i64 k,.int .i64 m,.slice o n c]:=(hgr.block _ (by have:=hb5.size;omega) (fun e=>by have:=(HOO.out _ e.symm).1;omega)).trans (T3.below hb5);have brw:Blk w' (w.heap.size+1) 32 #[.int .i64 0,.int .i64 0,.slice none 0 0]:=(hgr.block _ (by have:=hb5.size;omega) (fun e=>by have:=(HOO.out _ e.symm).1;omega)).trans (br.below hb5);have bxw:Blk w' w.heap.size tBm #[.int .i64 m,.int .i64 C,.slice o1 n1 c1,.int .i64 k,.int .i64 C,.slice (some ⟨b,0,none⟩) k c2]:=(hgr.block _ (by have:=hb5.size;omega) (fun e=>by have:=(HOO.out _ e.symm).1;omega)).trans (bx.below hb5);have hBw:Below w.heap.size w w':=(nx hb' hb5).grown hgr (by have:=hb'.size;have:=hb5.size;omega) (fun g' hg=>by have:=(HOO.out g' hg).1;omega);obtain⟨t1,t2,t3,t4,t5,t6⟩:=T3w.three;obtain⟨po,pn,pc,rfl,-⟩:=id hown.rows))
  have hx1:zBq w' (w'.setCell ⟨W0.heap.size,2,none⟩ (.slice po pn pc)):=T3w.lext dE _ _;have hrow:=hown.offS T3w dE dE (fun b hb=>zW _ _ _ b _ hb) hx1;have T3z:Blk (w'.setCell ⟨W0.heap.size,2,none⟩ (.slice po pn pc)) W0.heap.size 32 #[.int .i64 k,.int .i64 m,.slice po pn pc]:=by simpa using T3w.set_ 2 (.slice po pn pc)
  have brz:Blk (w'.setCell ⟨W0.heap.size,2,none⟩ (.slice po pn pc)) (w.heap.size+1) 32 #[.int .i64 0,.int .i64 0,.slice none 0 0]:=(zW _ _ _ _ _ oM).trans brw;have bxz:Blk (w'.setCell ⟨W0.heap.size,2,none⟩ (.slice po pn pc)) w.heap.size tBm #[.int .i64 m,.int .i64 C,.slice o1 n1 c1,.int .i64 k,.int .i64 C,.slice (some ⟨b,0,none⟩) k c2]:=(zW _ _ _ _ _ oM).trans bxw;have hBz:Below w.heap.size w (w'.setCell ⟨W0.heap.size,2,none⟩ (.slice po pn pc)):=yJ hBw oM _ _;go_roundw
  case rel=>exact⟨j+1,by omega,by simp,_,_,_,hBz,bxz,brz,T3z,by rw[HD.out];exact hrow⟩
  case measure=>simp[intOf];omega
 obtain rfl:j=k:=by omega
 obtain⟨t1,t2,t3,t4,t5,t6⟩:=T3.three;have hrs:RsO wr (W0.heap.size+1) (.slice o n c) (genM j m (zEa C M N)):=by rw[<-HTE.out];exact hrs
 have HRS:=xgv hrs;clear hrs;obtain⟨r1,r2,r3,r4,r5,r6⟩:=br.three;go_wp2;refine zAl (r:=w.heap.size+1) rfl rfl rfl (br.put3 _ _ _) ⟨_,rfl,⟨_,rfl,(HRS.out.offS br dE dE (fun k hk=>zAe _ _ k _ _ _ hk) (br.lext3 dE _ _ _)).rows⟩,yJ (yJ (yJ hb oM 0 _) oM 1 _) oM 2 _⟩
theorem zTs(v1 v2:Value)(R Q C D:Nat)(M N:List (List Int))(w:World)(h1:zAO w v1 R C M)(h2:zAO w v2 Q D N)(hF1:zBc R C M)(hF2:zBc Q D N)(hR:R<=1000000)(hQ:Q<=1000000)(hC:C<=1000000)(hS1:∀r∈M,∀z∈r,Sm z)(hS2:∀r∈N,∀z∈r,Sm z)(hD:C=D)
  (hk:∀(v:Value) (w:World),zAO w v ((R+Q:Nat):Int) C (M++N)->Calls Tryz.prog 59 #[v] w fun e w'=>∃v,e= .returned v/\zHf (R+Q) C (ent (M++N)) w' v/\Below w.heap.size w w'):
  Calls Tryz.prog 16 #[v1,v2] w fun e w'=>∃v,e= .returned (.tuple #[v,.int .i64 0])/\zHf (R+Q) C (ent (M++N)) w' v/\Below w.heap.size w w':=by
 have H1:=xgv h1;have H2:=xgv h2;obtain⟨A1,rfl,h1⟩:=h1;obtain⟨A2,rfl,h2⟩:=h2;have HF1:=xgv hF1;have HF2:=xgv hF2;have HS1:=xgv hS1;have HS2:=xgv hS2;have HK:=xgv hk;have HD:=xgv hD;have HAA:zAN (((C:Int)==(D:Int))=true):=⟨by rw[hD];simp⟩;clear h1 h2 hF1 hF2 hS1 hS2 hk hD;go_enter Tryz.func16,Tryz.ntmps16;go_upto_region 1 with(fail)
 refine zD ?_;intro W0 hW0;obtain⟨hB0,bx1,bx2,br,hs0⟩:=zCH hW0;obtain⟨c1,c2,c3,c4,c5,c6⟩:=bx1.three;obtain⟨d1,d2,d3,d4,d5,d6⟩:=bx2.three;clear hW0;go_wp2_with fail
 refine(zFB _ _ _ _ _ _ W0).mono ?_;rintro e w1 ⟨rfl,k1,k2,hb1⟩;have hB:=nx hB0 hb1;have bx1:=bx1.below hb1;have bx2:=bx2.below hb1;have br:=br.below hb1;clear c1 c2 c3 c4 c5 c6 d1 d2 d3 d4 d5 d6;go_wp2_with fail
 refine(zDE (.inl rfl) _ _ 1 50 _ (qQ _ _ _) (ans:=true) (k:=0) rfl (fun W hW=>zEK _ _ R C Q D _ _ M N W (((H1.out.below hB).below ((zA _ _).alloc (xgf _) _)).below hW) HF1.out (((H2.out.below hB).below ((zA _ _).alloc (xgf _) _)).below hW) HF2.out ((k1.below ((zA _ _).alloc (xgf _) _)).below hW) ((k2.below ((zA _ _).alloc (xgf _) _)).below hW) HAA.out)).mono ?_;rintro e w2 ⟨v,rfl,rfl,hb2⟩;have hb02:Below w1.heap.size w1 w2:=nx ((zA _ _).alloc (xgf _) _) hb2;have hB:=nx hB hb02;have bx1:=bx1.below hb02;have bx2:=bx2.below hb02;have br:=br.below hb02;clear k1 k2;obtain⟨c1,c2,c3,c4,c5,c6⟩:=bx1.three;obtain⟨d1,d2,d3,d4,d5,d6⟩:=bx2.three;go_wp2_with fail
 refine(zJ0 _ _ R Q C M N w2 (H1.out.below hB) (by simpa only[HD.out]using H2.out.below hB) HF1.out (by simpa only[HD.out]using HF2.out) hR hQ hC HS1.out HS2.out).mono ?_;rintro e w3 ⟨v,rfl,hv,hb3⟩;have hB:=nx hB hb3;have br:=br.below hb3;obtain⟨s1,s2,s3,rfl⟩:=hv.agg;have HV:=xgv hv;clear c1 c2 c3 c4 c5 c6 d1 d2 d3 d4 d5 d6 bx1 bx2 hv;go_upto_region 7 with(fail)
 refine zD ?_;intro W7 hW7;obtain⟨hB7,T7,hs7⟩:=qM hW7;obtain⟨t1,t2,t3,t4,t5,t6⟩:=T7.three;have hB:=nx hB hB7;have br:=br.below hB7;clear hW7;go_wp2_with fail
 refine(HK.out _ W7 (HV.out.below hB7)).mono ?_;rintro e w8 ⟨v,rfl,⟨r,c,G,hl,hm⟩,hb8⟩;obtain⟨m1,m2,m3,rfl⟩:=hm.agg;have hB:=nx hB hb8;have br:=br.below hb8;have HL:=xgv hl;have HM:=xgv hm;clear t1 t2 t3 t4 t5 t6 T7 hl hm;obtain⟨r1,r2,r3,r4,r5,r6⟩:=br.three;go_wp2;refine bodyPost_ret (zDk rfl _ rfl (br.put3 _ _ _) rfl) rfl ⟨_,rfl,⟨_,_,_,HL.out,HM.out.keep3 br _ _ _⟩,yJ (yJ (yJ hB oM 0 _) oM 1 _) oM 2 _⟩
theorem zTt(v1 v2:Value)(R Q C D:Nat)(M N:List (List Int))(w:World)(h1:zAO w v1 R C M)(h2:zAO w v2 Q D N)(hF1:zBc R C M)(hF2:zBc Q D N)(hD:C≠D):
  Calls Tryz.prog 16 #[v1,v2] w fun e w'=>∃v,e= .returned (.tuple #[v,.int .i64 50])/\v= .agg #[.int .i64 0,.int .i64 0,.slice none 0 0]/\Below w.heap.size w w':=by
 have H1:=xgv h1;have H2:=xgv h2;obtain⟨A1,rfl,h1⟩:=h1;obtain⟨A2,rfl,h2⟩:=h2;have HF1:=xgv hF1;have HF2:=xgv hF2;have HAA:zAN (((C:Int)==(D:Int))=false):=⟨beq_eq_false_iff_ne.2 fun h=>hD oM⟩;clear h1 h2 hF1 hF2 hD;go_enter Tryz.func16,Tryz.ntmps16;go_upto_region 1 with(fail)
 refine zD ?_;intro W0 hW0;obtain⟨hB0,bx1,bx2,br,hs0⟩:=zCH hW0;obtain⟨c1,c2,c3,c4,c5,c6⟩:=bx1.three;obtain⟨d1,d2,d3,d4,d5,d6⟩:=bx2.three;clear hW0;go_wp2_with fail
 refine(zFB _ _ _ _ _ _ W0).mono ?_;rintro e w1 ⟨rfl,k1,k2,hb1⟩;have hB:=nx hB0 hb1;have bx1:=bx1.below hb1;have bx2:=bx2.below hb1;have br:=br.below hb1;clear c1 c2 c3 c4 c5 c6 d1 d2 d3 d4 d5 d6;go_wp2_with fail
 refine(zDE (.inl rfl) _ _ 1 50 _ (qQ _ _ _) (ans:=false) (k:=50) rfl (fun W hW=>zEK _ _ R C Q D _ _ M N W (((H1.out.below hB).below ((zA _ _).alloc (xgf _) _)).below hW) HF1.out (((H2.out.below hB).below ((zA _ _).alloc (xgf _) _)).below hW) HF2.out ((k1.below ((zA _ _).alloc (xgf _) _)).below hW) ((k2.below ((zA _ _).alloc (xgf _) _)).below hW) HAA.out)).mono ?_;rintro e w2 ⟨v,rfl,rfl,hb2⟩;have hb02:Below w1.heap.size w1 w2:=nx ((zA _ _).alloc (xgf _) _) hb2;have hB:=nx hB hb02;have bx1:=bx1.below hb02;have bx2:=bx2.below hb02;have br:=br.below hb02;clear k1 k2;obtain⟨r1,r2,r3,r4,r5,r6⟩:=br.three;go_wp2;refine bodyPost_ret (zDk rfl _ rfl (br.put3 _ _ _) rfl) rfl ⟨_,rfl,rfl,yJ (yJ (yJ hB oM 0 _) oM 1 _) oM 2 _⟩
theorem zUx(f:Nat->Int):∀C,∃M,1<=M/\∀b,b<C->(f b).natAbs<=M
 |0=>⟨1,xgf _,fun b hb=>by omega⟩
 |C+1=>by
  obtain⟨M,h1,h2⟩:=zUx f C;refine⟨M+(f C).natAbs,by omega,fun b hb=>?_⟩;by_cases e:b=C
  ·subst e;omega
  have:=h2 b oM;omega
theorem zUw(C:Nat)(F:Nat->Nat->Int):∀R,∃M,1<=M/\leM M R C F
 |0=>⟨1,xgf _,fun a ha=>by omega⟩
 |R+1=>by
  obtain⟨M,h1,h2⟩:=zUw C F R;obtain⟨N,h3,h4⟩:=zUx (F R) C;refine⟨M+N,by omega,fun a ha b hb=>?_⟩;by_cases e:a=R
  ·subst e;have:=h4 b hb;omega
  have:=h2 a oM b hb;omega
theorem zTY(hR:R<=6)(A:Nat->Nat->Int):∃r c H U V,zEn R C r c A H U V:=by
 obtain⟨T,h1,hT⟩:=zUw C A R;obtain⟨E,hE⟩:∃E,E=ecE R 0:=⟨_,rfl⟩;obtain⟨Z,hZ⟩:∃Z,Z=2*T:=⟨_,rfl⟩;obtain⟨f,ops,r,c,-,h2,-,h3⟩:=zJh (B:=T*Z^E+1) (n:=R) (Cs:=C) (Ct:=0) hR R 0 0 ⟨A,idf,idf⟩ T T (fun _=>0) oM oM ⟨hT,fun _ _ b hb=>by omega,fun _ _ b hb=>by omega⟩ hT h1 h1 ⟨fun k hk=>by omega,fun k hk=>by omega,fun k hk=>by omega,fun k l h1 h2=>by omega⟩ (fun i j h1 h2=>by omega) (fun a h1 h2=>by omega) (fun G hG=>by
  rw[<-hE,<-hZ]at hG;have h4:G<=Z*G:=qK _ oM;exact Nat.lt_succ_of_le (zF _ (zB h4 hG)))
 exact⟨r,c,_,zA9 ops idf,fun a t=>zMe ops idf t a,h3,fun a ha b _=>zK0 h2 A a ha b,zIn h2 (zIX R),fun a ha b _=>zEf h2 A a ha b⟩
def iB(h:Nat):Nat:=bB (432*h^5)
theorem zPh{h1 h2:Nat}{A B:List (List Int)}(hA:leM h1 R m (ent A))(hB:leM h2 m C (ent B))(hm:m<=5)(he:2*(h1+h2+5*(h1*h2))<=2^e)(he2:e<=35000000000000):zHz A B R m C:=fun i hi j hj k hk=>by
 have hsm:∀z:Int,z.natAbs<=h1+h2+5*(h1*h2)->Sm z:=fun z hz=>zWb (zJ hz (zOe he he2))
 have g1:=hA i hi k hk;have g2:=hB k hk j hj;have g3:(ent A i k*ent B k j).natAbs<=h1*h2:=by rw[qZ];exact qT g1 g2
 refine⟨hsm _ oM,hsm _ oM,hsm _ oM,hsm _ ?_⟩;unfold zJ1;rw[zKG];refine zB (zFN (B:=h1*h2) fun t ht=>?_) (zB (zO _ (show k<=5 by omega)) oM);rw[qZ];exact qT (hA i hi t oM) (hB t oM j hj)
theorem zR8(b:Nat)(x1 x2 x3 y1 y2 y3:Value)(w:World)(hb:Blk w b tBm #[x1,x2,x3,y1,y2,y3]){ans:Bool}
  (hk:Calls Tryz.prog 69 #[.agg #[y1,y2,y3],.agg #[x1,x2,x3]] w fun e w'=>∃v,e= .returned v/\v= .bool ans/\Below w.heap.size w w'):
  Calls Tryz.prog 77 #[.pointer (some ⟨b,0,none⟩)] w fun e w'=>∃v,e= .returned v/\v= .bool ans/\Below w.heap.size w w':=by
 obtain⟨t1,t2,t3,t4,t5,t6⟩:=hb.six;have HK:=xgv hk;clear hk;go_enter Tryz.func77,Tryz.ntmps77;go_wp2_with fail
 refine HK.out.mono ?_;rintro e w1 ⟨v,rfl,rfl,hb1⟩;go_wp2;go_ret;exact⟨_,rfl,rfl,hb1⟩
theorem zPG(b:Nat)(x1 x2 x3 y1 y2 y3:Value)(w:World)(hb:Blk w b tBm #[x1,x2,x3,y1,y2,y3]){ans:Bool}
  (hk:Calls Tryz.prog 69 #[.agg #[y1,y2,y3],.agg #[x1,x2,x3]] w fun e w'=>∃v,e= .returned v/\v= .bool ans/\Below w.heap.size w w'):
  Calls Tryz.prog 68 #[.pointer (some ⟨b,0,none⟩)] w fun e w'=>∃v,e= .returned v/\v= .bool ans/\Below w.heap.size w w':=by
 obtain⟨t1,t2,t3,t4,t5,t6⟩:=hb.six;have HK:=xgv hk;clear hk;go_enter Tryz.func68,Tryz.ntmps68;go_wp2_with fail
 refine HK.out.mono ?_;rintro e w1 ⟨v,rfl,rfl,hb1⟩;go_wp2;go_ret;exact⟨_,rfl,rfl,hb1⟩
theorem zPH(b r1 r2:Nat)(x2 x3 y2 y3:Value)(w:World)(hb:Blk w b tBm #[.int .i64 r1,x2,x3,.int .i64 r2,y2,y3]){ans:Bool}(hans:((r1:Int)==(r2:Int))=ans):
  Calls Tryz.prog 70 #[.pointer (some ⟨b,0,none⟩)] w fun e w'=>∃v,e= .returned v/\v= .bool ans/\Below w.heap.size w w':=by
 obtain⟨t1,t2,t3,t4,t5,t6⟩:=hb.six;go_enter Tryz.func70,Tryz.ntmps70;go_wp2;go_ret;refine⟨_,rfl,?_,zA _ _⟩;rw[<-hans];rfl
theorem zOw(caps caps2:Array Value)(b c:Nat)(er er2:Int)(w:World)(hb:Blk w b tCn #[.func (.func 68) #[] caps,.int .i64 er,.func (.func 70) #[] caps2,.int .i64 er2]){a1 a2:Bool}{k:Int}(hk:(if a1=true then(if a2=true then 0 else er2)else er)=k)
  (hc:∀(W:World),Below w.heap.size w W->Calls Tryz.prog 68 caps W fun e w'=>∃v,e= .returned v/\v= .bool a1/\Below W.heap.size W w')
  (hc2:∀(W:World),Below w.heap.size w W->Calls Tryz.prog 70 caps2 W fun e w'=>∃v,e= .returned v/\v= .bool a2/\Below W.heap.size W w'):
  Calls Tryz.prog 56 #[.slice (some ⟨b,0,none⟩) 2 c] w fun e w'=>∃v,e= .returned v/\v= .int .i64 k/\Below w.heap.size w w':=by
 have HK:=xgv hk;have HC:=xgv hc;have HC2:=xgv hc2;clear hk hc hc2;go_enter Tryz.func56,Tryz.ntmps56;go_wp2;go_loopw [7] (fun iv wr=>∃i:Nat,i<=2/\iv= .int .i64 i/\Below w.heap.size w wr/\zAN ((1<=i->a1=true)/\(2<=i->a2=true))) (fun iv _=>2-(intOf iv).toNat)
 case atStart=>exact⟨0,by omega,rfl,zA _ _,⟨⟨fun h=>by omega,fun h=>by omega⟩⟩⟩
 obtain⟨i,hi,rfl,hB,hz⟩:=hrel;have hb:=hb.below hB;have q0:=hb.cell 0;have q1:=hb.cell 1;have q2:=hb.cell 2;have q3:=hb.cell 3;rcases(by omega:i=0∨i=1∨i=2)with rfl|rfl|rfl
 ·rw[show((0:Nat):Int)=(0:Int) from rfl]
  go_upto_region 4 with(fail)
  refine zD ?_;intro W1 hW1;obtain⟨hB1,T4,hs1⟩:=qM hW1;obtain⟨d1,d2,d3,d4⟩:=T4.two;have hB':=nx hB hB1;clear hW1;go_wp2_with fail
  refine(HC.out W1 hB').mono ?_;rintro e w2 ⟨v,rfl,rfl,hb2⟩;have hB2:=nx hB' hb2;have T4:=T4.below hb2;clear d1 d2 d3 d4;obtain⟨d1,d2,d3,d4⟩:=T4.two;cases a1 with
  |true=>
   go_wp2;go_roundw
   case rel=>exact⟨1,by omega,by simp,hB2,⟨by simp⟩⟩
   case measure=>simp[intOf]
  |false=>
   go_wp2;go_ret;exact⟨_,rfl,by rw[<-HK.out];rfl,hB2⟩
 ·have h1:=hz.out.1 (xgf _)
  subst h1;rw[show((1:Nat):Int)=(1:Int) from rfl];go_upto_region 4 with(fail)
  refine zD ?_;intro W1 hW1;obtain⟨hB1,T4,hs1⟩:=qM hW1;obtain⟨d1,d2,d3,d4⟩:=T4.two;have hB':=nx hB hB1;clear hW1;go_wp2_with fail
  refine(HC2.out W1 hB').mono ?_;rintro e w2 ⟨v,rfl,rfl,hb2⟩;have hB2:=nx hB' hb2;have T4:=T4.below hb2;clear d1 d2 d3 d4;obtain⟨d1,d2,d3,d4⟩:=T4.two;cases a2 with
  |true=>
   go_wp2;go_roundw
   case rel=>exact⟨2,by omega,by simp,hB2,⟨by simp⟩⟩
   case measure=>simp[intOf]
  |false=>
   go_wp2;go_ret;exact⟨_,rfl,by rw[<-HK.out];rfl,hB2⟩
 have h1:=hz.out.1 oM;have h2:=hz.out.2 oM;subst h1;subst h2;go_wp2;go_ret;exact⟨_,rfl,by rw[<-HK.out];rfl,hB⟩
theorem zXN(v:Value)(R C:Int)(M:List (List Int))(w:World)(h:zAO w v R C M)(hS:∀r∈M,∀z∈r,Sm z)(hb:zSz R C M):
  Calls Tryz.prog 83 #[v] w fun e w'=>∃v,e= .returned v/\v= .bool true/\Below w.heap.size w w':=by
 refine(zR9 v R C M w h hS).mono ?_;rintro e w' ⟨d,rfl,hd,hb'⟩;exact⟨_,rfl,by rw[hd.2 hb],hb'⟩
def zYb(R C:Nat)(W:List (List Int)):World->Value->Prop:=fun w v=>∃U V,zMg w v R C W U V
end Go.Proofs.YtkidaebmhlijlaaGreat
