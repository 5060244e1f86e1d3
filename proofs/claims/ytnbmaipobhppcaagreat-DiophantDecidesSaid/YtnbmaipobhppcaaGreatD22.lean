/- smith's run (the mirror) ends within bounds; what its matrices are to each other. Plain Lean. hermite.Form of small matrices: a Hermite normal form, with its transforms. hermite.Basis. hermite.Basis of small matrices; what a Hermite normal form is, row by row. hermite.Is: the closure and the search. hermite.Is. The law for regions that draw (RegV), where two values stand in a relation, and some values are copies of others. hermite.Reduce. torsionref12: Pivot, Is. hermite.Check. torsionref12.Check. smith's run (the mirror) ends, within bounds, in a diagonal. Plain Lean. smith's divide (the mirror): relations, bounds, and the chain of invariants. Plain Lean. Invariants and minors; smith's run on small matrices ends within bounds. Plain Lean. smith.Invariants. smith.inverses and smith.Check where everything holds. smith.Check where everything holds; the zero struct. torsionlaw13.list. -/
import Derived.Test.YtnbmaipobhppcaaGreatD09
import Derived.Test.YtnbmaipobhppcaaGreatD12
import Derived.Test.YtnbmaipobhppcaaGreatD16
import Derived.Test.YtnbmaipobhppcaaGreatD17
import Derived.Test.YtnbmaipobhppcaaGreatD18
import Derived.Test.YtnbmaipobhppcaaGreatD19
import Derived.Test.YtnbmaipobhppcaaGreatD20
import Derived.Test.YtnbmaipobhppcaaGreatD21
set_option linter.unusedVariables false
set_option linter.unusedSimpArgs false
set_option linter.unusedSectionVars false
set_option maxHeartbeats 16000000
set_option maxRecDepth 100000
namespace Go.Proofs.YtnbmaipobhppcaaGreat
open Go.RowKit
structure Rel(R C:Nat)(A:Nat->Nat->Int)(z:W5):Prop where
 s:∀a,a<R->∀b,b<C->z.s a b=qE R fun s=>z.u a s*qE C fun t=>A s t*z.w b t
 uv:∀a,a<R->∀b,b<R->dot R z.u z.v a b=idf a b
 vu:∀a,a<R->∀b,b<R->cod R z.v z.u a b=idf a b
 wx:∀a,a<C->∀b,b<C->dot C z.w z.x a b=idf a b
 xw:∀a,a<C->∀b,b<C->cod C z.x z.w a b=idf a b
theorem zMP(a b:Nat):idf a b=idf b a:=by unfold idf;split<;>split<;>omega
theorem zOj{n a:Nat}(ha:a<n)(f:Nat->Int):qE n (fun t=>f t*idf t a)=f a:=by
 rw[zAG (c:=a) ha]
 ·unfold idf;rw[if_pos rfl,Int.mul_one]
 ·intro t ht hne
  unfold idf;rw[if_neg hne,Int.mul_zero]
theorem zNu(n:Nat):∀a,a<n->∀b,b<n->dot n idf idf a b=idf a b:=fun a ha b hb=>by
 unfold dot;rw[zU (g:=fun t=>idf a t*idf t b) (fun t ht=>by rw[zMP b t]),zOj hb]
structure leW(M R C Cu Cw:Nat)(z:W5):Prop where
 s:leM M R C z.s
 u:leM M R Cu z.u
 v:leM M R Cu z.v
 w:leM M C Cw z.w
 x:leM M C Cw z.x
def rnd(z:W5)(l1 l2:List Op):W5:=⟨trF (zBX l2 (trF (zBX l1 z.s))),zBX l1 z.u,zKz l1 z.v,zBX l2 z.w,zKz l2 z.x⟩
def GE(T:Nat):Nat:=(2*T)^KE
structure Low(R C r:Nat)(F:Nat->Nat->Int):Prop where
 hnf:Hnf R C r (fun k=>k) (trF F)
 row:∀a,r<=a->a<R->∀b,b<C->F a b=0
 le:r<=R
theorem zGr{n b:Nat}{l:List Op}(hl:yA n l):∀{F:Nat->Nat->Int},(∀a,a<n->F a b=0)->∀a,a<n->zBX l F a b=0:=by
 intro F h a ha;rw[zK0 hl F a ha b];exact zDG fun t ht=>by rw[h t ht,Int.mul_zero]
theorem second{R C r1:Nat}{c1:Nat->Nat}{H:Nat->Nat->Int}{l2:List Op}{r2:Nat}{c2:Nat->Nat}(hH:Hnf C R r1 c1 H)(hl:yA C l2)(h2:Hnf R C r2 c2 (zBX l2 (trF H))):
  r2=r1/\(∀k,k<r1->c2 k=k)/\Low R C r1 (trF (zBX l2 (trF H))):=by
 have hz:∀a,a<C->∀b,r1<=b->b<R->zBX l2 (trF H) a b=0:=fun a ha b h3 h4=>zGr hl (fun a' ha'=>hH.zero b h3 h4 a' ha') a ha
 have hdet:det r1 (fun a b=>trF H (c1 a) b)≠0:=by
  have e:(fun a b=>trF H (c1 a) b)=trp (fun a b=>H a (c1 b)):=rfl;rw[e,zBK,zGc fun a ha b hb hab=>hH.ech.zero a ha _ (hH.ech.inc b a hab ha)];have:=zAZ (n:=r1) (f:=fun i=>H i (c1 i)) fun i hi=>hH.ech.pos i hi
  omega
 obtain⟨e1,e2⟩:=zFN h2 (fun a ha b _=>zCG hl (trF H) a ha b) hz hH.le (fun a ha=>hH.ech.lt a ha) hdet;subst e1;refine⟨rfl,fun k hk=>e2 k hk,⟨h2.le,⟨fun k hk=>?_,fun k hk=>?_,fun k hk t ht=>?_,fun k l h3 _=>h3⟩,fun i j h3 h4 _=>?_,h2.zero⟩,fun a h3 h4 b hb=>hz b hb a h3 h4,hH.le⟩
 ·have:=h2.ech.lt k hk;rwa[e2 k hk]at this
 ·have:=h2.ech.pos k hk;rw[e2 k hk]at this;exact this
 ·exact h2.ech.zero k hk t (by rw[e2 k hk];exact ht)
 ·have:=h2.red i j h3 h4 trivial;rw[e2 j h4]at this;exact this
theorem Hnf.congr_c{C n r:Nat}{c:Nat->Nat}{F:Nat->Nat->Int}(h:Hnf C n r c F)(he:∀k,k<r->c k=k):Hnf C n r (fun k=>k) F:=
 ⟨h.le,⟨fun k hk=>by have:=h.ech.lt k hk;rwa[he k hk]at this,fun k hk=>by have:=h.ech.pos k hk;rw[he k hk]at this;exact this,fun k hk t ht=>h.ech.zero k hk t (by rw[he k hk];exact ht),fun k l h3 _=>h3⟩,
  fun i j h3 h4 _=>by have:=h.red i j h3 h4 trivial;rw[he j h4]at this;exact this,h.zero⟩
theorem first{R C r:Nat}{F:Nat->Nat->Int}{l1:List Op}{r1:Nat}{c1:Nat->Nat}(hF:Low R C r F)(hl:yA R l1)(h1:Hnf C R r1 c1 (zBX l1 F)):
  r1=r/\Hnf C R r (fun k=>k) (zBX l1 F)/\∀a,a<R->∀b,r<=b->b<C->zBX l1 F a b=0:=by
 have hz:∀a,a<R->∀b,r<=b->b<C->zBX l1 F a b=0:=fun a ha b h3 h4=>zGr hl (fun a' ha'=>hF.hnf.zero b h3 h4 a' ha') a ha
 have hdet:det r (fun a b=>F a b)≠0:=by
  rw[zCx (F:=F) fun a ha b hb hab=>hF.hnf.ech.zero b hb a hab];have:=zAZ (n:=r) (f:=fun i=>F i i) fun i hi=>hF.hnf.ech.pos i hi
  omega
 obtain⟨e1,e2⟩:=zFN (σ:=fun a=>a) h1 (fun a ha b _=>zCG hl F a ha b) hz hF.hnf.le (fun a ha=>by have:=hF.le;omega) hdet;subst e1;exact⟨rfl,h1.congr_c e2,hz⟩
def mu(r:Nat)(F:Nat->Nat->Int):Int:=jE r fun j=>jE (j+1) fun i=>F i i
theorem zEc{n:Nat}{f g:Nat->Int}(hf:∀i,i<n->0<f i)(hg:∀i,i<n->0<g i)(hd:∀i,i<n->f i∣g i)(h:jE n f=jE n g):∀i,i<n->f i=g i:=by
 induction n with
 |zero=>intro i hi;omega
 | succ n ih=>
  unfold jE at h;have h1:=zAZ (n:=n) (f:=f) fun i hi=>hf i oM
  have h2:=zAZ (n:=n) (f:=g) fun i hi=>hg i oM
  have h3:=Int.le_of_dvd h2 (zGs fun i hi=>hd i oM);have h4:=Int.le_of_dvd (hg n oM) (hd n oM);have h5:=hf n oM;have h6:jE n f=jE n g:=by
   refine Int.le_antisymm h3 ?_;refine Int.not_lt.1 fun h7=>?_
   have:jE n f*f n<jE n g*f n:=Int.mul_lt_mul_of_pos_right h7 h5;have:jE n g*f n<=jE n g*g n:=Int.mul_le_mul_of_nonneg_left h4 oM;omega
  have h7:f n=g n:=by
   rw[h6]at h;exact Int.eq_of_mul_eq_mul_left oM h
  intro i hi;by_cases e:i=n
  ·rw[e];exact h7
  ·exact ih (fun i hi=>hf i oM) (fun i hi=>hg i oM) (fun i hi=>hd i oM) h6 i oM
theorem zFp{r:Nat}{f g:Nat->Int}(hg:∀i,i<r->0<g i)(h:∀j,j<=r->jE j f=jE j g):∀i,i<r->f i=g i:=by
 intro i hi;have h1:=h i oM;have h2:=h (i+1) oM;unfold jE at h2;rw[h1]at h2;have:=zAZ (n:=i) (f:=g) fun k hk=>hg k oM
 exact Int.eq_of_mul_eq_mul_left oM h2
theorem zQr{R C r h:Nat}{A:Nat->Nat->Int}{z:W5}{l1 l2:List Op}{r1:Nat}{c1:Nat->Nat}{r2:Nat}{c2:Nat->Nat}(hR:R<=4)(hF:Low R C r z.s)(h1:yA R l1)(h2:yA C l2)
  (hn1:Hnf C R r1 c1 (zBX l1 z.s)) (hn2:Hnf R C r2 c2 (zBX l2 (trF (zBX l1 z.s)))):
  Low R C r (rnd z l1 l2).s/\(mu r (rnd z l1 l2).s∣mu r z.s)/\(mu r (rnd z l1 l2).s=mu r z.s->zKG R C (rnd z l1 l2).s):=by
 obtain⟨rfl,hH,hz⟩:=first hF h1 hn1
 obtain⟨rfl,e2,hL⟩:=second hH h2 hn2;have hn2':=hn2.congr_c e2;have hpF:∀i,i<r2->0<z.s i i:=fun i hi=>hF.hnf.ech.pos i hi
 have hpH:∀i,i<r2->0<zBX l1 z.s i i:=fun i hi=>hH.ech.pos i hi
 have hpL:∀i,i<r2->0<(rnd z l1 l2).s i i:=fun i hi=>hL.hnf.ech.pos i hi
 have d1:∀j,j<=r2->jE j (fun i=>zBX l1 z.s i i)∣jE j (fun i=>z.s i i):=fun j hj=>zKb hH (fun a ha b _=>zCG h1 z.s a ha b) hj fun a ha b hb hab=>hF.hnf.ech.zero b oM a hab
 have d2:∀j,j<=r2->jE j (fun i=>(rnd z l1 l2).s i i)∣jE j (fun i=>zBX l1 z.s i i):=fun j hj=>
  zKb (F:=trF (zBX l1 z.s)) (H:=zBX l2 (trF (zBX l1 z.s))) hn2' (fun a ha b _=>zCG h2 _ a ha b) hj fun a ha b hb hab=>hH.ech.zero b oM a hab
 refine⟨hL,zGs fun j hj=>Int.dvd_trans (d2 _ oM) (d1 _ oM),fun he=>?_⟩;have g1:=zEc (fun j hj=>zAZ fun i hi=>hpL i oM) (fun j hj=>zAZ fun i hi=>hpF i oM) (fun j hj=>Int.dvd_trans (d2 (j+1) oM) (d1 (j+1) oM)) he;have g2:∀j,j<=r2->jE j (fun i=>zBX l1 z.s i i)=jE j (fun i=>(rnd z l1 l2).s i i):=fun j hj=>by
  cases j with
  |zero=>rfl
  |succ j=>
   have k1:=g1 j oM;have k2:=Int.le_of_dvd (zAZ fun i hi=>hpH i oM) (d2 (j+1) hj);have k3:=Int.le_of_dvd (zAZ fun i hi=>hpF i oM) (d1 (j+1) hj);omega
 have g3:=zFp hpL g2;have g4:=zMN (F:=trF (zBX l1 z.s)) hn2' (fun a ha b _=>zCG h2 _ a ha b) (fun a ha b hb hab=>hH.ech.zero b hb a hab) g3 hF.le;intro a ha b hb hab;show zBX l2 (trF (zBX l1 z.s)) b a=0;rcases Nat.lt_or_ge b r2 with k1|k1
 ·rcases Nat.lt_or_ge a r2 with k2|k2
  ·rcases Nat.lt_or_ge b a with k3|k3
   ·exact g4 b k1 a k2 k3
   ·exact hn2'.ech.zero b k1 a (show a<b by omega)
  ·exact hL.row a k2 ha b hb
 ·exact hn2'.zero b k1 hb a ha
structure zBf(R C r:Nat)(c:Nat->Nat)(A H U V:Nat->Nat->Int):Prop where
 hnf:Hnf C R r c H
 mul:∀a,a<R->∀b,b<C->H a b=qE R fun t=>U a t*A t b
 inv:∀a,a<R->∀b,b<R->qE R (fun t=>U a t*V t b)=idf a b
 back:∀a,a<R->∀b,b<C->A a b=qE R fun t=>V a t*H t b
theorem zBf.bound{R C r M:Nat}{c:Nat->Nat}{A H U V:Nat->Nat->Int}(h:zBf R C r c A H U V)(hR:R<=4)(hM:1<=M)(hA:leM M R C A):leM (24*(8*M)^4) R C H:=
 zKa (U:=U) (X:=fun t a=>V a t) hR hM h.hnf hA h.back h.inv
theorem zHC{n:Nat}{σ:Nat->Nat}(f:Nat->Int)(hlt:∀k,k<n->σ k<n)(hinj:∀a b,a<n->b<n->σ a=σ b->a=b)(hsur:∀t,t<n->∃k,k<n/\σ k=t):qE n f=qE n fun k=>f (σ k):=by
 have h1:qE n f=qE n fun t=>qE n fun k=>if σ k=t then f t else 0:=zU fun t ht=>by
  obtain⟨k,hk,e⟩:=hsur t ht;rw[zAG (c:=k) hk (fun i hi hne=>if_neg fun e2=>hne (hinj i k hi hk (e2.trans e.symm))),if_pos e]
 rw[h1,zEn];refine zU fun k hk=>?_
 rw[zAG (c:=σ k) (hlt k hk) (fun i hi hne=>if_neg fun e=>hne e.symm),if_pos rfl]
theorem zMr{n C:Nat}{F:Nat->Nat->Int}{L:List (Nat × Nat)}(hz:∀a,a<n->(∀k,k<L.length->(L.getD k (0,0)).1≠a)->lead C F a<0){a:Nat}(ha:a<n):a∈zGJ n C F L:=by
 by_cases hm:a∈L.map (·.1)
 ·exact List.mem_append.2 (.inl hm)
 ·refine List.mem_append.2 (.inr ?_)
  simp only[List.mem_filter,List.mem_range,decide_eq_true_eq];refine⟨ha,hz a ha fun k hk e=>hm ?_⟩;rw[<-e,xgb,xga hk];exact List.mem_map.2 ⟨_,List.getElem_mem hk,rfl⟩
def zCs(n C:Nat)(F:Nat->Nat->Int)(L:List (Nat × Nat))(a:Nat):Nat:=(zGJ n C F L).getD a 0
theorem zD7{n C:Nat}{F:Nat->Nat->Int}{L:List (Nat × Nat)}{k:Nat}(hk:k<L.length):zCs n C F L k=jI L k:=by
 unfold zCs zGJ jI;rw[xgb,List.getElem?_append_left (by simpa using hk),List.getElem?_map,xga hk,xgb,xga hk];rfl
theorem zK1{n C:Nat}{F:Nat->Nat->Int}{L:List (Nat × Nat)}{k:Nat}(h1:L.length<=k)(h2:k<(zGJ n C F L).length):lead C F (zCs n C F L k)<0:=by
 unfold zCs;have e:(zGJ n C F L)[k]?=((List.range n).filter fun i=>decide (lead C F i<0))[k-L.length]?:=by
  unfold zGJ;rw[List.getElem?_append_right (by simpa using h1)];simp
 rw[xgb,xga h2];rw[xga h2]at e;have:=xgd e.symm;simp only[List.mem_filter,decide_eq_true_eq]at this;exact this.2
theorem zMM{R C Ct M0 g:Nat}{A:Nat->Nat->Int}{y:Bst}{L:List (Nat × Nat)}(h:JC R C Ct M0 ⟨A,idf,idf⟩ R g y L)(hred:zHS (fun _ _=>True) L.length (zDM L) (vw (jI L) y.s))(hlen:(zGJ R C y.s L).length=R):
  zBf R C L.length (zDM L) A (fun a b=>y.s (zCs R C y.s L a) b) (fun a b=>y.t (zCs R C y.s L a) b) (fun a b=>y.i (zCs R C y.s L b) a):=by
 obtain⟨l,hl,hy⟩:=h.ops;rw[zKy]at hy;have hs:y.s=zBX l A:=by rw[hy]
 have ht:y.t=zBX l idf:=by rw[hy]
 have hi:y.i=zKz l idf:=by rw[hy]
 have hlok:=h.lok (xgf _);have hz:∀a,a<R->(∀k,k<L.length->(L.getD k (0,0)).1≠a)->lead C y.s a<0:=fun a ha hn=>by
  rw[zF1 (h.zero a ha hn)];decide
 have olt:∀a,a<R->zCs R C y.s L a<R:=fun a ha=>by
  unfold zCs;rw[xgb,xga oM];exact zF7 hlok _ (List.getElem_mem _)
 have oinj:∀a b,a<R->b<R->zCs R C y.s L a=zCs R C y.s L b->a=b:=fun a b ha hb e=>by
  unfold zCs at e;rw[xgb,xga oM,xgb,xga oM]at e;exact(List.getElem_inj (h₀:=by omega) (h₁:=by omega) (zDb hlok)).1 e
 have osur:∀t,t<R->∃a,a<R/\zCs R C y.s L a=t:=fun t ht=>by
  obtain⟨a,ha,e⟩:=List.getElem_of_mem (zMr hz ht);refine⟨a,by omega,?_⟩;unfold zCs;rw[xgb,xga ha];exact e
 refine⟨⟨Nat.le_trans h.len (xgf _),⟨h.ech.lt,fun k hk=>?_,fun k hk t ht=>?_,h.ech.inc⟩,fun i j hij hj _=>?_,fun a h1 h2 t ht=>?_⟩,fun a ha b hb=>?_,fun a ha b hb=>?_,?_⟩
 ·show 0<y.s (zCs R C y.s L k) (zDM L k)
  rw[zD7 hk];exact h.ech.pos k hk
 ·show y.s (zCs R C y.s L k) t=0
  rw[zD7 hk];exact h.ech.zero k hk t ht
 ·show 0<=y.s (zCs R C y.s L i) (zDM L j)/\y.s (zCs R C y.s L i) (zDM L j)<y.s (zCs R C y.s L j) (zDM L j)
  rw[zD7 oM,zD7 hj];exact hred i j hij hj trivial
 ·exact zF0 (zK1 h1 oM) t ht
 ·show y.s (zCs R C y.s L a) b=qE R fun t=>y.t (zCs R C y.s L a) t*A t b
  rw[ht];conv=>lhs;rw[show y.s (zCs R C y.s L a) b=zBX l A (zCs R C y.s L a) b from by rw[<-hs]]
  exact zK0 hl A _ (olt a ha) b
 ·show qE R (fun t=>y.t (zCs R C y.s L a) t*y.i (zCs R C y.s L b) t)=idf a b
  rw[ht,hi];have:=zOU hl (P:=idf) (Q:=idf) (C:=R) (fun a ha b hb=>zNu R a ha b hb) _ (olt a ha) _ (olt b hb);unfold dot at this;rw[this];unfold idf;by_cases e:a=b
  ·rw[if_pos e,if_pos (by rw[e])]
  ·rw[if_neg e,if_neg (fun e2=>e (oinj a b ha hb e2))]
 ·intro a ha b hb
  show A a b=qE R fun t=>y.i (zCs R C y.s L t) a*y.s (zCs R C y.s L t) b
  rw[<-zHC (σ:=zCs R C y.s L) (fun t=>y.i t a*y.s t b) olt oinj osur,hi,hs];exact zCG hl A a ha b
theorem zIW{os:List Nat}{n C:Nat}{F:Nat->Nat->Int}(h:os.length=n):(os.map fun i=>zM C (F i))=zX n C fun a b=>F (os.getD a 0) b:=by
 refine List.ext_getElem (by simp[zX,h]) fun i h1 h2=>?_
 simp only[List.length_map]at h1;simp only[zX,zM,List.getElem_map,List.getElem_range];rw[xgb,xga h1];rfl
theorem zOt:∃n:Nat,n=B32^zJx:=⟨_,rfl⟩
noncomputable def BD:Nat:=zOt.choose
theorem zJv:BD=B32^zJx:=zOt.choose_spec
theorem zJu:BSd BD:=⟨fun z hz=>by rw[zJv]at hz;exact⟨hz⟩⟩
theorem zNQ:∃n:Nat,n=2^40:=⟨_,rfl⟩
noncomputable def E40:Nat:=zNQ.choose
theorem zNP:E40=2^40:=zNQ.choose_spec
theorem zFf:E40=1099511627776:=by rw[zNP]
theorem zMF(M:Nat):2*gk 40 M=(2*M)^E40:=by rw[zNP];exact zNU 40 M
theorem zPC{e M0 k:Nat}(hk:k<=40)(hM1:1<=M0)(hM:2*M0<=2^e):gk k M0<2^(e*E40):=by
 have h1:=zA2 hM1 hk;have h2:=zMF M0;have h3:(2*M0)^E40<=(2^e)^E40:=Nat.pow_le_pow_left hM _;rw[<-Nat.pow_mul]at h3;have h4:=zEW 40 hM1;omega
theorem zCH{a D:Nat}(h:a<=32*D):2^a<=B32^D:=by
 rw[show B32=2^32 from rfl,<-Nat.pow_mul];exact Nat.pow_le_pow_right oM h
theorem zP0{e M0 k:Nat}(hk:k<=40)(hM1:1<=M0)(hM:2*M0<=2^e)(he:e<=31):gk k M0<BD:=by
 rw[zJv];refine Nat.lt_of_lt_of_le (zPC hk hM1 hM) (zCH ?_);rw[zAP];have:e*E40<=31*E40:=Nat.mul_le_mul_right _ he;rw[zFf]at this ⊢
 omega
theorem zKd(n M:Nat)(h:1<=M):leM M n n idf:=fun a _ b _=>by
 unfold idf;split<;>simp<;>omega
theorem zKZ{M0 q:Nat}(hM1:1<=M0)(v:Value)(M:List (List Int))(R C:Nat)(w:World)(h:yP w v R C M)(hF:jK R C M)(hR:R<=6)(hC:C<=1000000)(hg:gk (esr q R) M0<BD)(hA:leM M0 R C (ent M))(hrk:RkB q R C ⟨ent M,idf,idf⟩):
  Calls Tryz.prog 69 #[v] w fun e w'=>∃v r c H U V,e= .returned v/\zBf R C r c (ent M) H U V/\leM (gk (esr q R) M0) R R U/\leM (gk (esr q R) M0) R R V/\zHO w' v R C (zX R C H) (zX R R U) (zX R R V)/\Below w.heap.size w w':=by
 have hB:=zJu;have hB0:leB M0 R C R ⟨ent M,idf,idf⟩:=⟨hA,zKd R M0 hM1,zKd R M0 hM1⟩;have hE:=zNy (Cs:=C) (x0:=⟨ent M,idf,idf⟩) (Ct:=R) hR hM1 hg hrk;have hMB:M0<BD:=Nat.lt_of_le_of_lt (zHf _ hM1) hg;refine(zKY hB v M R C w h hF oM hC (hA.ok hMB) (Smd.one (z:=1) dE).sm hE (zMV hB0 hM1) (fun y L hJ a ha hn=>?_)).mono ?_
 ·rw[zF1 ((JH.fin hJ).1.zero a ha hn)];decide
 ·rintro ee w' ⟨v,y,L,rfl,hJ,hl,hv,hb⟩
  obtain⟨hJ,hr⟩:=JH.fin hJ;have hbd:=hJ.bd;have olt:∀a,a<R->zCs R C y.s L a<R:=fun a ha=>by
   unfold zCs;rw[xgb,xga oM];exact zF7 (hJ.lok (xgf _)) _ (List.getElem_mem _)
  refine⟨v,_,_,_,_,_,rfl,zMM hJ hr hl,fun a ha b hb=>hbd.2.1 _ (olt a ha) b hb,fun a ha b hb=>hbd.2.2 _ (olt b hb) a ha,?_,hb⟩;rw[zIW hl,zIW hl]at hv;exact hv
theorem zML{M0:Nat}(hM1:1<=M0)(v:Value)(M:List (List Int))(R C:Nat)(w:World)(h:yP w v R C M)(hF:jK R C M)(hR:R<=6)(hC:C<=1000000)(hg:gk (es R) M0<BD)(hA:leM M0 R C (ent M)):
  Calls Tryz.prog 69 #[v] w fun e w'=>∃v r c H U V,e= .returned v/\zBf R C r c (ent M) H U V/\leM (gk (es R) M0) R R U/\leM (gk (es R) M0) R R V/\zHO w' v R C (zX R C H) (zX R R U) (zX R R V)/\Below w.heap.size w w':=
 (zKZ (q:=R) hM1 v M R C w h hF hR hC (Nat.lt_of_le_of_lt (zA2 hM1 (zIO R R)) hg) hA RkB.all).mono fun e w' ⟨v,r,c,H,U,V,h1,h2,h3,h4,h5⟩=>⟨v,r,c,H,U,V,h1,h2,h3.mono (zA2 hM1 (zIO R R)),h4.mono (zA2 hM1 (zIO R R)),h5⟩
theorem zKO{R:Nat}(h:R<=4):es R<=40:=Nat.le_trans (zN2 h) dE
theorem zHg{M0 e:Nat}(hM1:1<=M0)(hM0:2*M0<=2^e)(he:e<=31)(v:Value)(M:List (List Int))(R C:Nat)(w:World)(h:yP w v R C M)(hF:jK R C M)(hR:R<=4)(hC:C<=4)(hA:leM M0 R C (ent M)):
  Calls Tryz.prog 69 #[v] w fun e w'=>∃v r c H U V,e= .returned v/\zBf R C r c (ent M) H U V/\leM (24*(8*M0)^4) R C H/\leM (gk 40 M0) R R U/\leM (gk 40 M0) R R V/\zHO w' v R C (zX R C H) (zX R R U) (zX R R V)/\Below w.heap.size w w':=by
 refine(zML hM1 v M R C w h hF oM oM (zP0 (zKO hR) hM1 hM0 he) hA).mono ?_;rintro ee w' ⟨v,r,c,H,U,V,rfl,hf,hU,hV,hv,hb⟩;have hg:=zA2 hM1 (zKO hR);exact⟨v,r,c,H,U,V,rfl,hf,hf.bound hR hM1 hA,hU.mono hg,hV.mono hg,hv,hb⟩
abbrev tMt:TypeId:=28
structure zQZ(R C r:Nat)(c:Nat->Nat)(A H:Nat->Nat->Int):Prop where
 hnf:Hnf C R r c H
 sp:zO2 R C H A
 sp':zO2 R C A H
def zLL(C:Nat)(F:Nat->Nat->Int)(i:Nat):Prop:=
 lead C F i<0∨∃c:Nat,lead C F i=(c:Int)/\(∀k,k<i->0<=lead C F k/\lead C F k<c)/\0<F i c/\∀k,k<i->0<=F k c/\F k c<F i c
def zPo(R C:Int)(M:List (List Int)):Prop:=qX R C M/\∀i,i<M.length->zLL C.toNat (ent M) i
def zRD(P:Prop)(w:World)(e:Ending)(w':World):Prop:=∃b,e= .returned (.bool b)/\(b=true↔P)/\Below w.heap.size w w'
theorem jK.row_eq{R C:Nat}{M:List (List Int)}(h:jK R C M){i:Nat}{zs:List Int}(hz:M[i]?=some zs):zs=zM C (ent M i):=by
 have hl:=h.2 zs (xgd hz);refine List.ext_getElem (by simp[zM,hl]) fun j h1 h2=>?_
 simp only[zM,List.getElem_map,List.getElem_range];rw[zAU hz (xga h1)]
structure zQb(C:Nat)(F:Nat->Nat->Int)(i:Nat)(last:Int)(en:Bool):Prop where
 ok:∀k,k<i->zLL C F k
 ended:en=true↔∃k,k<i/\lead C F k<0
 lst:en=false->∀c:Int,0<=c->(last<c↔∀k,k<i->lead C F k<c)

structure Cpy where
 k:Nat
 s:Nat
 d:Nat
 t:Nat
def Cpy.fine(vs:List VS)(c:Cpy):Bool:=vs.any (fun a=>a.op==c.k && a.slot==c.s) && vs.any (fun a=>a.op==c.d && a.slot==c.t) && !(c.k==c.d)
theorem zJ1{vs:List VS}{k s:Nat}(h:vs.any (fun a=>a.op==k && a.slot==s)=true):∃P,(⟨k,s,P⟩:VS)∈vs:=by
 obtain⟨a,ha,e⟩:=List.any_eq_true.1 h;simp only[Bool.and_eq_true,beq_iff_eq]at e;obtain⟨rfl,rfl⟩:=e;exact⟨a.P,ha⟩
theorem Cpy.fine_all{vs:List VS}{cp:List Cpy}(h:cp.all (Cpy.fine vs)=true){c:Cpy}(hc:c∈cp):(∃P,(⟨c.k,c.s,P⟩:VS)∈vs)/\(∃P,(⟨c.d,c.t,P⟩:VS)∈vs)/\c.k≠c.d:=by
 have:=List.all_eq_true.1 h c hc;unfold Cpy.fine at this;simp only[Bool.and_eq_true]at this;exact⟨zJ1 this.1.1,zJ1 this.1.2,by have:=this.2;simpa using this⟩
structure RVP(ka sa kb sb:Nat)(Q:Value->Value->Prop)(cp:List Cpy)(W:World)(T0:Array Value)(vs:List VS)(L:Array Bool)(T:Array Value)(w:World):Prop where
 rv:RV W T0 vs L T w
 ma:∃P,(⟨ka,sa,P⟩:VS)∈vs
 mb:∃P,(⟨kb,sb,P⟩:VS)∈vs
 ne:ka≠kb
 mc:cp.all (Cpy.fine vs)=true
 pair:L[ka]?=some true->L[kb]?=some true->∃u v,T[sa]?=some u/\T[sb]?=some v/\Q u v
 cpy:∀c∈cp,L[c.k]?=some true->L[c.d]?=some true/\T[c.s]?=T[c.t]?
section
variable {ka sa kb sb:Nat} {Q:Value->Value->Prop} {cp:List Cpy} {W:World} {T0:Array Value} {vs:List VS} {L:Array Bool} {T:Array Value} {w w':World}
theorem RVP.start(hwf:zCZ T0.size vs=true)(hv:∀s∈vs,qS s.P)(ma:∃P,(⟨ka,sa,P⟩:VS)∈vs)(mb:∃P,(⟨kb,sb,P⟩:VS)∈vs)(ne:ka≠kb)(mc:cp.all (Cpy.fine vs)=true){n:Nat}:RVP ka sa kb sb Q cp W T0 vs (Array.replicate n false) T0 W.drew:=
 have no:∀k,¬ (Array.replicate n false)[k]?=some true:=fun k h=>by
  rw[Array.getElem?_replicate]at h;split at h<;>simp at h
 ⟨RV.start hwf hv,ma,mb,ne,mc,fun h _=>absurd h (no _),fun _ _ h=>absurd h (no _)⟩
theorem RVP.world(h:RVP ka sa kb sb Q cp W T0 vs L T w)(hb:Below w.heap.size w w'):RVP ka sa kb sb Q cp W T0 vs L T w':=⟨h.rv.world hb,h.ma,h.mb,h.ne,h.mc,h.pair,h.cpy⟩
theorem RVP.cell(h:RVP ka sa kb sb Q cp W T0 vs L T w){b o:Nat}{v:Value}(hc:W.cell? ⟨b,o,none⟩=some v):w.cell? ⟨b,o,none⟩=some v:=h.rv.cell hc
theorem RVP.bel(h:RVP ka sa kb sb Q cp W T0 vs L T w):Below W.heap.size W w:=h.rv.bel
theorem RVP.size(h:RVP ka sa kb sb Q cp W T0 vs L T w):T.size=T0.size:=h.rv.size
theorem RVP.keep(h:RVP ka sa kb sb Q cp W T0 vs L T w):∀j,(∀s∈vs,s.slot≠j)->T[j]?=T0[j]?:=h.rv.keep
theorem RVP.val(h:RVP ka sa kb sb Q cp W T0 vs L T w):∀s∈vs,L[s.op]?=some true->∃v,T[s.slot]?=some v/\s.P w v:=h.rv.val
theorem RVP.value{k:Nat}{v:Value}(h:RVP ka sa kb sb Q cp W T0 vs L T w)(s:VS)(hs:s∈vs)(hk:s.op=k)(hP:s.P w v)
  (hq:∀u,(k=ka->T[sb]?=some u->L[kb]?=some true->Q v u)/\(k=kb->T[sa]?=some u->L[ka]?=some true->Q u v):=by intro u;exact⟨fun e=>absurd e dE,fun e=>absurd e dE⟩)
  (hL:L[k]?=some false:=by assumption) (hc:cp.all (fun c=>!(c.k==k))=true∨∀c∈cp,c.k=k->L[c.d]?=some true/\T[c.t]?=some v:=by first|exact .inl rfl|exact .inl dE):
  RVP ka sa kb sb Q cp W T0 vs (L.setIfInBounds k true) (T.setIfInBounds s.slot v) w:=by
 have hr:=h.rv.value s hs hk hP;subst hk;obtain⟨Pa,ma⟩:=h.ma;obtain⟨Pb,mb⟩:=h.mb;have hwf:=h.rv.wf;unfold zCZ at hwf;simp only[Bool.and_eq_true,decide_eq_true_eq,List.all_eq_true]at hwf;obtain⟨⟨w1,w2⟩,w3⟩:=hwf;have hslot:s.slot<T.size:=by rw[h.rv.size];exact w3 _ (List.mem_map.2 ⟨s,hs,rfl⟩)
 have hab:sb≠sa:=fun e=>h.ne (congrArg VS.op (zN w1 ma mb e.symm))
 have hkeep:∀{j:Nat},L[j]?=some true->j≠s.op:=fun hj e=>by rw[e,hL]at hj;cases hj
 have hset:∀{j:Nat},L[j]?=some true->(L.setIfInBounds s.op true)[j]?=some true:=fun {j} hj=>by rw[xgc (Ne.symm (hkeep hj))];exact hj
 refine⟨hr,h.ma,h.mb,h.ne,h.mc,fun h1 h2=>?_,fun c hcm h1=>?_⟩
 ·by_cases e1:s.op=ka
  ·have es:s=⟨ka,sa,Pa⟩:=zN w2 hs ma e1
   have e2:s.slot=sa:=by rw[es]
   have hlb:L[kb]?=some true:=zL h2 (by rw[e1];exact h.ne);obtain⟨u,hu,-⟩:=h.rv.val _ mb hlb;exact⟨v,u,by rw[e2,Array.getElem?_setIfInBounds_self_of_lt (by rw[<-e2];exact hslot)],by rw[e2,xgc (Ne.symm hab)];exact hu,(hq u).1 e1 hu hlb⟩
  ·have hla:L[ka]?=some true:=zL h1 e1
   obtain⟨u,hu,-⟩:=h.rv.val _ ma hla;by_cases e3:s.op=kb
   ·have es:s=⟨kb,sb,Pb⟩:=zN w2 hs mb e3
    have e2:s.slot=sb:=by rw[es]
    exact⟨u,v,by rw[e2,xgc hab];exact hu,by rw[e2,Array.getElem?_setIfInBounds_self_of_lt (by rw[<-e2];exact hslot)],(hq u).2 e3 hu hla⟩
   ·obtain⟨x,y,g1,g2,g3⟩:=h.pair hla (zL h2 e3)
    have n1:s.slot≠sa:=fun e=>e1 (congrArg VS.op (zN w1 hs ma e))
    have n2:s.slot≠sb:=fun e=>e3 (congrArg VS.op (zN w1 hs mb e))
    exact⟨x,y,by rw[xgc n1];exact g1,by rw[xgc n2];exact g2,g3⟩
 ·obtain⟨⟨Pk,mk⟩,⟨Pd,md⟩,hne⟩:=Cpy.fine_all h.mc hcm
  by_cases e1:c.k=s.op
  ·rcases hc with hc|hc
   ·have:=List.all_eq_true.1 hc c hcm
    simp[e1]at this
   ·obtain⟨g1,g2⟩:=hc c hcm e1
    have es:s=⟨c.k,c.s,Pk⟩:=zN w2 hs mk e1.symm;have e2:s.slot=c.s:=by rw[es]
    have n2:s.slot≠c.t:=fun e=>hne (by rw[e1];exact congrArg VS.op (zN w1 hs md e))
    exact⟨hset g1,by rw[<-e2,Array.getElem?_setIfInBounds_self_of_lt hslot,xgc n2,g2]⟩
  ·obtain⟨g1,g2⟩:=h.cpy c hcm (zL h1 (Ne.symm e1))
   have n1:s.slot≠c.s:=fun e=>e1 (congrArg VS.op (zN w1 hs mk e)).symm
   have n2:s.slot≠c.t:=fun e=>hkeep g1 (congrArg VS.op (zN w1 hs md e)).symm
   exact⟨hset g1,by rw[xgc n1,xgc n2];exact g2⟩
theorem RVP.v{s:VS}(h:RVP ka sa kb sb Q cp W T0 vs L T w)(hs:s∈vs)(hl:L[s.op]?=some true):∃v,T[s.slot]?=some v/\s.P w v:=h.val s hs hl
theorem RVP.y{k:Nat}{v:Value}(h:RVP ka sa kb sb Q cp W T0 vs L T w){s:VS}(hs:s∈vs)(hP:s.P w v)
  (hq:∀u,(k=ka->T[sb]?=some u->L[kb]?=some true->Q v u)/\(k=kb->T[sa]?=some u->L[ka]?=some true->Q u v):=by intro u;exact⟨fun e=>absurd e dE,fun e=>absurd e dE⟩)
  (hL:L[k]?=some false:=by assumption) (hc:cp.all (fun c=>!(c.k==k))=true∨∀c∈cp,c.k=k->L[c.d]?=some true/\T[c.t]?=some v:=by first|exact .inl rfl|exact .inl dE) (hk:s.op=k:=by rfl):
  RVP ka sa kb sb Q cp W T0 vs (L.setIfInBounds k true) (T.setIfInBounds s.slot v) w:=h.value s hs hk hP hq hL hc
end
def quo(C:Nat)(F:Nat->Nat->Int)(r:Nat->Int)(i:Nat):Int:=if lead C F i<0 then 0 else r (lead C F i).toNat/F i (lead C F i).toNat
def zBN(C:Nat)(F:Nat->Nat->Int)(x:Nat->Int):Nat->Nat->Int
 |0=>x
 |i+1=>fun t=>zBN C F x i t+-(quo C F (zBN C F x i) i)*F i t
def zA7(C:Nat)(F:Nat->Nat->Int)(x:Nat->Int)(i:Nat):Int:=quo C F (zBN C F x i) i
structure zQO(B R C:Nat)(F:Nat->Nat->Int)(x:Nat->Int):Prop where
 mat:okF B R C F
 rest:∀i,i<=R->∀t,t<C->(zBN C F x i t).natAbs<B
 quot:∀i,i<R->(zA7 C F x i).natAbs<B/\∀t,t<C->(-(zA7 C F x i)*F i t).natAbs<B
theorem mkV(m:Int)(n:Nat)(hm:m=n)(h:n<=1099511627776)(W:World):
  (Instr.makeSlice 31 (.int .i64 m) (.int .i64 m)).run Tryz.prog W= .ok (.slice (some ⟨W.heap.size,0,none⟩) n n) (W.alloc (.cells (zeroCells n) tI)):=by
 subst hm;obtain⟨i0,hi,hz0,hz1,hz2⟩:=info_parts Tryz.infoI;have:=zAa (P:=Tryz.prog) 31 tI i0 _ Tryz.underlying31 hi hz0 .i64 .i64 n n (xgf _) (by rw[hz2];omega) oM W;rw[this,hz1];rfl
def zL0(lo n:Nat):World->Value->Prop:=fun w v=>∃b,v= .slice (some ⟨b,0,none⟩) n n/\lo<=b/\qC w b (zM n fun _=>0)
theorem zCi(lo n:Nat):qS (zL0 lo n):=fun _ _ _ hb ⟨b,h1,h2,h3⟩=>⟨b,h1,h2,h3.below hb⟩
theorem zCP{w:World}{lo n:Nat}(hlo:lo<=w.heap.size):zL0 lo n (w.alloc (.cells (zeroCells n) tI)) (.slice (some ⟨w.heap.size,0,none⟩) n n):=
 ⟨_,rfl,hlo,by
  have h:=zDC w n
  rwa[show List.replicate n (0:Int)=zM n fun _=>0 from List.ext_getElem (by simp[zM]) fun i h1 h2=>by simp[zM]]at h⟩
def zQY(u v:Value):Prop:=∀a b n m c d,u= .slice (some ⟨a,0,none⟩) n c->v= .slice (some ⟨b,0,none⟩) m d->a≠b
theorem zFO(a b:Int):qS (DMV a b):=fun _ _ _ x ⟨q,r,h1,h2,h3⟩=>⟨q,r,h1,h2.ext (lx x),h3.ext (lx x)⟩
def zOZ(a b:Nat)(T:Array Value)(w:World):World:=
 match T[a]?,T[b]? with
 |some (.pointer (some ⟨g,o,none⟩)),some (.agg #[x,y])=>(w.setCell ⟨g,o,none⟩ x).setCell ⟨g,o+1,none⟩ y
 |_,_=>w
theorem zF9{a b g o:Nat}{T:Array Value}{w:World}{x y:Value}(h1:T[a]?=some (.pointer (some ⟨g,o,none⟩)))(h2:T[b]?=some (.agg #[x,y])):zOZ a b T w=(w.setCell ⟨g,o,none⟩ x).setCell ⟨g,o+1,none⟩ y:=by
 unfold zOZ;rw[h1,h2];rfl
theorem zD9{a b c:Nat}{T:Array Value}{w:World}{v:Value}(h1:c≠a)(h2:c≠b):zOZ a b (T.setIfInBounds c v) w=zOZ a b T w:=by
 unfold zOZ;rw[xgc h1,xgc h2]
theorem zD4{W w:World}(h:yC [] W w):Below W.heap.size W w:=⟨h.bel.os,h.bel.tape,h.bel.output,h.bel.size,fun k hk=>h.old k hk sI⟩
theorem zDh{n:Nat}(f g:Nat->Int):zM n (qA f g n)=zM n f:=zP fun t ht=>by unfold qA;rw[if_pos ht]
theorem zCM{n:Nat}(f g:Nat->Int):zM n (qA f g 0)=zM n g:=zP fun t _=>by unfold qA;rw[if_neg oM]
theorem zDK{n j:Nat}(f g:Nat->Int):(zM n (qA f g j)).set j (f j)=zM n (qA f g (j+1)):=by
 rw[zAi];exact zP fun t _=>by
  unfold qA;by_cases h2:t=j
  ·subst h2;rw[if_pos rfl,if_pos oM]
  ·rw[if_neg h2]
   by_cases h1:t<j
   ·rw[if_pos h1,if_pos oM]
   ·rw[if_neg h1,if_neg oM]
theorem zCo{fn:Func}{a b c:Tmp}(h:fn.results=#[.tmp a,.tmp b,.tmp c])(tmps:Array Value)(P:Program)(W:World):(results fn tmps).run P W= .ok (.tuple #[tmps.getD a undef,tmps.getD b undef,tmps.getD c undef]) W:=by
 simp[results,h]
def zOy(R C:Nat)(q r:Nat->Int)(w:World)(e:Ending)(w':World):Prop:=∃qv rv,e= .returned (.tuple #[qv,rv,.int .i64 0])/\qT w' qv (zM R q)/\qT w' rv (zM C r)/\Below w.heap.size w w'
theorem zGj{B:Nat}(hB:BSd B)(hv vv:Value)(R C:Nat)(M:List (List Int))(x:Nat->Int)(w:World)(h:yP w hv R C M)(hF:jK R C M)(hx:qT w vv (zM C x))(hR:R<=1000000)(hC:C<=1000000)(hok:zQO B R C (ent M) x)(hB0:0<B):
  Calls Tryz.prog 70 #[hv,vv] w (zOy R C (zA7 C (ent M) x) (zBN C (ent M) x R) w):=by
 have h0:=h;obtain⟨A,rfl,h⟩:=h;obtain⟨ao,n,cap,rfl,e2,e3,e4,-⟩:=id h;obtain rfl:R=n:=by rw[<-e2,hF.1]
 obtain⟨xo,xn,xcap,rfl,x2,x3,x4,-⟩:=id hx;rw[zD]at x2;subst x2;have hdv:decide (qX R C M)=true:=decide_eq_true hF.valid;have HF:=xgv hF;have HOK:=xgv hok;have H0:=xgv h0;have HR:=xgv h;have HX:=xgv hx;have HB0:=xgv hB0;clear hok h0 hF e2 h hx hB0;go_enter Tryz.func70,Tryz.ntmps70;go_upto_region 1 with(fail)
 refine zB ?_;intro W0 hW0;obtain⟨hb0,bx1,hs0⟩:=zK hW0;obtain⟨c1,c2,c3,c4,c5,c6⟩:=bx1.three;clear hW0;go_wp2_with fail
 refine(yK _ R C M W0 (H0.out.below hb0)).mono ?_;rintro e w1 ⟨rfl,hb1⟩;rw[hdv];have bx1:=bx1.below hb1;have hb:=nx hb0 hb1;clear c1 c2 c3 c4 c5 c6 hdv;obtain⟨c1,c2,c3,c4,c5,c6⟩:=bx1.three;have hmkR:=fun W=>mkV (R:Int) R rfl oM W
 have hmkC:=fun W=>mkV (C:Int) C rfl oM W
 have hl1:=zCi w1.heap.size R;have hl2:=zCi w1.heap.size C;go_upto_region 3 with(fail)
 refine zE rfl (RVP 2 26 5 29 zQY [⟨6,7,2,26⟩,⟨7,8,5,29⟩] w1 _ [⟨0,24,fun _ v=>v= .pointer (some ⟨w.heap.size,0,none⟩)⟩,⟨1,25,fun _ v=>v= .int .i64 R⟩,⟨2,26,zL0 w1.heap.size R⟩,⟨3,27,fun _ v=>v= .pointer (some ⟨w.heap.size,1,none⟩)⟩,⟨4,28,fun _ v=>v= .int .i64 C⟩,⟨5,29,zL0 w1.heap.size C⟩,⟨6,7,zL0 w1.heap.size R⟩,⟨7,8,zL0 w1.heap.size C⟩]) kR (RVP.start kR (by repeat' (first|exact yJ _|exact jD _|exact yR _ _ _|exact qW _|assumption|refine xgm.2 ⟨?_,?_⟩|exact xgn _)) ⟨_,mm2⟩ ⟨_,mm5⟩ dE kR) ?fin1 ?steps1
 case steps1=>
  refine⟨?_,?_,?_,?_,?_,?_,?_,?_,trivial⟩<;>(intro L T wS hL hd hcl hI K hK;try refine zA rfl ?_)
  ·have zt:T[2]?=some (.pointer (some ⟨w.heap.size,0,none⟩)):=hI.keep 2 sI
   go_simp;exact hK _ _ (hI.y mm0 rfl)
  ·obtain⟨_,zt0,rfl⟩:=hI.v mm0 (hd 0)
   have cc0:=hI.cell c1;go_simp;exact hK _ _ (hI.y mm1 rfl)
  ·obtain⟨_,zt1,rfl⟩:=hI.v mm1 (hd 1)
   go_simp;exact hK _ _ ((hI.world ((Below.refl _ _).alloc (xgf _) _)).y mm2 (zCP hI.bel.size) (fun u=>⟨fun _ hu hl=>by obtain⟨v',q1,b',q2,q3,q4⟩:=hI.v mm5 hl;have:=q4.lt;cases q1.symm.trans hu;intro a b n m c d e1 e2;subst q2;cases e1;cases e2;omega,fun e=>absurd e dE⟩))
  ·have zt:T[2]?=some (.pointer (some ⟨w.heap.size,0,none⟩)):=hI.keep 2 sI
   go_simp;exact hK _ _ (hI.y mm3 rfl)
  ·obtain⟨_,zt3,rfl⟩:=hI.v mm3 (hd 3)
   have cc0:=hI.cell c2;go_simp;exact hK _ _ (hI.y mm4 rfl)
  ·obtain⟨_,zt4,rfl⟩:=hI.v mm4 (hd 4)
   go_simp;exact hK _ _ ((hI.world ((Below.refl _ _).alloc (xgf _) _)).y mm5 (zCP hI.bel.size) (fun u=>⟨fun e=>absurd e dE,fun _ hu hl=>by obtain⟨v',q1,b',q2,q3,q4⟩:=hI.v mm2 hl;have:=q4.lt;cases q1.symm.trans hu;intro a b n m c d e1 e2;subst q2;cases e1;cases e2;omega⟩))
  ·obtain⟨vc,ztc,hcv⟩:=hI.v mm2 (hd 2)
   go_simp;exact hK _ _ (hI.y mm6 hcv (hc:=.inr (by repeat' (first|refine xgm.2 ⟨?_,?_⟩|exact xgn _|(intro e;exact absurd e dE)|(intro _;exact⟨hd 2 kR,ztc⟩)))))
  ·obtain⟨vc,ztc,hcv⟩:=hI.v mm5 (hd 5)
   go_simp;exact hK _ _ (hI.y mm7 hcv (hc:=.inr (by repeat' (first|refine xgm.2 ⟨?_,?_⟩|exact xgn _|(intro e;exact absurd e dE)|(intro _;exact⟨hd 5 kR,ztc⟩)))))
 intro T w3 hI;obtain⟨va0,q0,rfl⟩:=hI.v mm0 rfl;obtain⟨va1,q1,rfl⟩:=hI.v mm1 rfl;obtain⟨va2,q2,ha2⟩:=hI.v mm2 rfl;obtain⟨va3,q3,rfl⟩:=hI.v mm3 rfl;obtain⟨va4,q4,rfl⟩:=hI.v mm4 rfl;obtain⟨va5,q5,ha5⟩:=hI.v mm5 rfl;obtain⟨va6,q6,ha6⟩:=hI.v mm6 rfl;obtain⟨va7,q7,ha7⟩:=hI.v mm7 rfl;have hT:=zAH [(24,.pointer (some ⟨w.heap.size,0,none⟩)),(25,.int .i64 R),(26,va2),(27,.pointer (some ⟨w.heap.size,1,none⟩)),(28,.int .i64 C),(29,va5),(7,va6),(8,va7)]
  (fun j hj=>hI.keep j (by simp only[xgm]at hj ⊢;simp[hj]))
  (by simp only[xgm];simp[q0,q1,q2,q3,q4,q5,q6,q7]) hI.size
 obtain⟨paa,pba,pua,pva,pqa⟩:=hI.pair rfl rfl;have pca:=hI.cpy;have hbw3:=hI.bel;clear hI;simp only[List.foldl_cons,List.foldl_nil,xgh,xgi,xgj,ptr]at hT;subst hT;clear q0 q1 q2 q3 q4 q5 q6 q7;have e6:va6=va2:=Option.some.inj (pca _ mm0 rfl).2;have e7:va7=va5:=Option.some.inj (pca _ mm1 rfl).2;have e8:va2=paa:=Option.some.inj pua;have e9:va5=pba:=Option.some.inj pva;subst e6 e7 e8 e9;obtain⟨qb,rfl,hq1,hq2⟩:zL0 w1.heap.size R w3 va6:=ha6;obtain⟨rb,rfl,hr1,hr2⟩:zL0 w1.heap.size C w3 va7:=ha7;have hqr:qb≠rb:=pqa _ _ _ _ _ _ rfl rfl;have hl01:=bx1.lt;have hb3:=nx hb hbw3;have bx1:=bx1.below hbw3;have hsz1:=hb.size;clear pca pqa ha2 ha5 hmkR hmkC hl1 hl2 c1 c2 c3 c4 c5 c6;obtain⟨c1,c2,c3,c4,c5,c6⟩:=bx1.three;have hrs:qC w3 rb (zM C (qA x (fun _=>0) 0)):=by rw[zCM];exact hr2
 clear hr2;go_wp2;go_loopw [32] (fun jv wr=>∃j:Nat,j<=C/\jv= .int .i64 j/\Below w.heap.size w wr/\Blk wr w.heap.size 28 #[.int .i64 R,.int .i64 C,.slice ao R cap]/\qC wr qb (zM R fun _=>0)/\qC wr rb (zM C (qA x (fun _=>0) j))) (fun jv _=>C-(intOf jv).toNat)
 case atStart=>exact⟨0,by omega,rfl,hb3,bx1,hq2,hrs⟩
 case round=>
  clear bx1 hq2 hrs c1 c2 c3 c4 c5 c6;obtain⟨j,hj,rfl,hbr,bx1,hq2,hrs⟩:=hrel;by_cases hlt:j<C
  ·obtain⟨bx,z,s,a,l,k,rfl,hbx,hz,p1,p2,hzv⟩:=(HX.out.below hbr).cell (k:=j) (by rw[zD];exact hlt)
   rw[zO hlt]at hz;obtain rfl:x j=z:=Option.some.inj hz;clear hz;go_upto_region 7 with(fail)
   refine zB ?_;intro W6 hW6;obtain⟨hB6,T6,hs6⟩:=zK hW6;have bx1:=bx1.below hB6;have hq2:=hq2.below hB6;have hrs:=hrs.below hB6;have hzv:=hzv.ext (lx hB6);have hbr:=nx hbr hB6;have sx:qF (Sm (x j)):=⟨hB.bsm.sm _ (HOK.out.rest 0 (Nat.zero_le _) j hlt)⟩;have sz:qF (Sm (0:Int)):=⟨hB.bsm.sm _ (by simpa using HB0.out)⟩;obtain⟨t1,t2,t3,t4⟩:=T6.two;clear p1 p2 hW6;go_wp2_with fail
   refine(zBv _ _ (x j) 0 W6 hzv.weak (zAA W6).weak sx.out sz.out).mono ?_;rintro e w7 ⟨u,rfl,hu,hb7⟩;rw[Int.add_zero]at hu;obtain⟨un,ua,ul,uc,ux,rfl,hu'⟩:=id hu;have HU:=xgw hu';have bx1:=bx1.below hb7;have hq2:=hq2.below hb7;have hrs:=hrs.below hb7;have hbr:=nx hbr hb7;clear hu' t1 t2 t3 t4;obtain⟨z0,z1,z2,z3,f1,f2,f3,f4,-⟩:=hrs.cell (zO hlt);have hset:=hrs.set (k:=j) (by rw[zD];exact hlt) hu;rw[zDK]at hset;have lb:=bx1.lt;have lq:=hq2.lt;go_wp2;go_roundw
   case rel=>
    exact⟨j+1,by omega,by simp,zT (zT hbr oM _ _) oM _ _,(zR _ _ _ _ _ _ _ oM).trans bx1,hq2.old (zR _ _ _ _ _ _ _ hqr) hset.2,hset.1⟩
   case measure=>simp[intOf];omega
  ·obtain rfl:j=C:=by omega
   rw[zDh]at hrs;obtain⟨c1,c2,c3,c4,c5,c6⟩:=bx1.three;have hqs:qC wr qb (zM R (qA (zA7 j (ent M) x) (fun _=>0) 0)):=by rw[zCM];exact hq2
   clear hq2;go_wp2;go_loopw [47] (fun iv wt=>∃i:Nat,i<=R/\iv= .int .i64 i/\Below w.heap.size w wt/\qC wt qb (zM R (qA (zA7 j (ent M) x) (fun _=>0) i))/\qC wt rb (zM j (zBN j (ent M) x i))) (fun iv _=>R-(intOf iv).toNat)
   case atStart=>exact⟨0,by omega,rfl,hbr,hqs,hrs⟩
   case round=>
    rename World=>wt
    clear hbr hqs hrs bx1 c1 c2 c3 c4 c5 c6;obtain⟨i,hi,rfl,hbt,hqs,hrs⟩:=hrel;by_cases hlt:i<R
    ·obtain⟨b,ra,rn,rc,zs,rfl,hbl,hz,p1,hrv0⟩:=HR.out.row (k:=i) (by rw[HF.out.1];exact hlt)
     obtain rfl:=HF.out.row_eq hz;have hrn:=hrv0.len.1;have p1:=(hbt.cell (p:=⟨b,i,none⟩) hbl).trans p1;have hrv:=hrv0.below hbt;rw[zD]at hrn;subst hrn;clear hz;go_wp2_with fail
     refine(zBD _ (zM j (ent M i)) wt hrv).mono ?_;rintro e w7 ⟨rfl,hb7⟩;obtain⟨d,hd⟩:∃d,zBo 0 (zM j (ent M i))=d:=⟨_,rfl⟩;rw[hd];have HD:=xgw (show lead j (ent M) i=d from hd);have hbt:=nx hbt hb7;have hqs:=hqs.below hb7;have hrs:=hrs.below hb7;have hrv:=hrv.below hb7;clear hd p1;by_cases hneg:d<0
     ·have hdn:decide (0<=d)=false:=decide_eq_false oM
      have HN:=xgw hneg;clear hneg;go_wp2;go_roundw
      case rel=>
       have hqz:zA7 j (ent M) x i=0:=by unfold zA7 quo;rw[if_pos (by rw[HD.out];exact HN.out)]
       have e1:zM R (qA (zA7 j (ent M) x) (fun _=>0) i)=zM R (qA (zA7 j (ent M) x) (fun _=>0) (i+1)):=zP fun t _=>by
        unfold qA;by_cases h1:t<i
        ·rw[if_pos h1,if_pos oM]
        ·by_cases h2:t=i
         ·rw[if_neg h1,if_pos oM,h2,hqz]
         ·rw[if_neg h1,if_neg oM]
       have e2:zM j (zBN j (ent M) x i)=zM j (zBN j (ent M) x (i+1)):=zP fun t _=>by
        show _=zBN j (ent M) x i t+-(zA7 j (ent M) x i)*ent M i t;rw[hqz];omega
       rw[e1]at hqs;rw[e2]at hrs;exact⟨i+1,by omega,by simp,hbt,hqs,hrs⟩
      case measure=>simp[intOf];omega
     ·obtain⟨c,rfl⟩:=Int.eq_ofNat_of_zero_le (Int.not_lt.1 hneg)
      obtain⟨hcC,hcz⟩:=zBE HD.out;have hqe:zA7 j (ent M) x i=zBN j (ent M) x i c/ent M i c:=by unfold zA7 quo;rw[HD.out,if_neg hneg];rfl
      obtain⟨y,hy⟩:∃y,zBN j (ent M) x i c=y:=⟨_,rfl⟩;obtain⟨p,hp⟩:∃p,ent M i c=p:=⟨_,rfl⟩;obtain⟨q,hq⟩:∃q,zA7 j (ent M) x i=q:=⟨_,rfl⟩;have hyB:qF (Sm y):=⟨by rw[<-hy];exact hB.bsm.sm _ (HOK.out.rest i oM c hcC)⟩;have hpB:qF (Sm p):=⟨by rw[<-hp];exact hB.bsm.sm _ (HOK.out.mat i hlt c hcC)⟩;have hqB:qF (q.natAbs<B/\∀t,t<j->(-q*ent M i t).natAbs<B):=⟨by rw[<-hq];exact HOK.out.quot i hlt⟩;have hp0:qF (p≠0):=⟨by rw[<-hp];exact hcz⟩;rw[hq,hy,hp]at hqe;obtain⟨_,_,_,e1,-,g1,g2,g5⟩:=id hrv0;cases e1;obtain⟨bi,rfl,hrow⟩:=g5 (fun h=>by have:=congrArg List.length h;rw[zD]at this;simp at this;omega);have hbi:=hrow.lt;have hrow7:=hrow.below hbt;obtain⟨s,a,l,k,q1,q2,-,-,hzv⟩:=hrow7.cell (zO hcC);rw[hp]at hzv;clear g5;obtain⟨s2,a2,l2,k2,o1,o2,-,-,hov⟩:=hrs.cell (zO hcC);rw[hy]at hov;have HY:=xgw hy;have HP:=xgw hp;have HQ:=xgw hq;have HQE:=xgw hqe;have lq:=hqs.lt;have lr:=hrs.lt;have hl3:=zFO y p;have hl4:qS (fun _ _=>True):=fun _ _ _ _ _=>trivial
      clear hy hp hq hqe hcz hneg hrv hrv0;go_upto_region 14 with(fail)
      refine zE rfl (RAS ([]) 99 w7 _ [⟨0,57,fun _ v=>v= .slice (some ⟨qb,0,none⟩) R R⟩,⟨1,58,fun _ v=>v= .int .i64 i⟩,⟨2,59,fun _ v=>v= .slice (some ⟨rb,0,none⟩) j j⟩,⟨3,60,fun _ v=>v= .int .i64 c⟩,⟨4,61,fun _ v=>v= .pointer (some ⟨rb,c*2,none⟩)⟩,⟨5,62,fun _ v=>v= .agg #[.bool s2,.slice a2 l2 k2]⟩,⟨6,63,fun _ v=>v= .slice (some ⟨bi,0,none⟩) j rc⟩,⟨7,64,fun _ v=>v= .int .i64 c⟩,⟨8,65,fun _ v=>v= .pointer (some ⟨bi,c*2,none⟩)⟩,⟨9,66,fun _ v=>v= .agg #[.bool s,.slice a l k]⟩,⟨10,67,DMV y p⟩,⟨11,56,DMV y p⟩,⟨12,68,fun w v=>zH w v (y/p)⟩,⟨13,69,fun _ _=>True⟩,⟨14,70,fun _ v=>v= .int .i64 0⟩,⟨15,71,fun _ v=>v= .pointer (some ⟨qb,i*2,none⟩)⟩] 16 (zOZ 71 68)) kR (RAS.start (RA.start kR (by repeat' (first|exact yJ _|exact jD _|exact yR _ _ _|exact qW _|assumption|refine xgm.2 ⟨?_,?_⟩|exact xgn _)))) ?fin2 ?steps2
      case steps2=>
       refine⟨?_,?_,?_,?_,?_,?_,?_,?_,?_,?_,?_,?_,?_,?_,?_,?_,?_,trivial⟩
       ·refine zF.liftA kR dE ?_
        intro L T wS hL hd hcl hI K hK;try refine zA rfl ?_
        have zt:T[7]?=some (.slice (some ⟨qb,0,none⟩) R R):=hI.keep 7 sI;go_simp;exact hK _ _ (hI.y mm0 rfl)
       ·refine zF.liftA kR dE ?_
        intro L T wS hL hd hcl hI K hK;try refine zA rfl ?_
        have zt:T[11]?=some (.int .i64 i):=hI.keep 11 sI;go_simp;exact hK _ _ (hI.y mm1 rfl)
       ·refine zF.liftA kR dE ?_
        intro L T wS hL hd hcl hI K hK;try refine zA rfl ?_
        have zt:T[8]?=some (.slice (some ⟨rb,0,none⟩) j j):=hI.keep 8 sI;go_simp;exact hK _ _ (hI.y mm2 rfl)
       ·refine zF.liftA kR dE ?_
        intro L T wS hL hd hcl hI K hK;try refine zA rfl ?_
        have zt:T[13]?=some (.int .i64 c):=hI.keep 13 sI;go_simp;exact hK _ _ (hI.y mm3 rfl)
       ·refine zF.liftA kR dE ?_
        intro L T wS hL hd hcl hI K hK;try refine zA rfl ?_
        obtain⟨_,zt2,rfl⟩:=hI.v mm2 (hd 2);obtain⟨_,zt3,rfl⟩:=hI.v mm3 (hd 3);go_simp;exact hK _ _ (hI.y mm4 rfl)
       ·refine zF.liftA kR dE ?_
        intro L T wS hL hd hcl hI K hK;try refine zA rfl ?_
        obtain⟨_,zt4,rfl⟩:=hI.v mm4 (hd 4);have cc0:=hI.cell (sI) oM o1;have cc1:=hI.cell (sI) oM o2;go_simp;exact hK _ _ (hI.y mm5 rfl)
       ·refine zF.liftA kR dE ?_
        intro L T wS hL hd hcl hI K hK;try refine zA rfl ?_
        have zt:T[12]?=some (.slice (some ⟨bi,0,none⟩) j rc):=hI.keep 12 sI;go_simp;exact hK _ _ (hI.y mm6 rfl)
       ·refine zF.liftA kR dE ?_
        intro L T wS hL hd hcl hI K hK;try refine zA rfl ?_
        have zt:T[13]?=some (.int .i64 c):=hI.keep 13 sI;go_simp;exact hK _ _ (hI.y mm7 rfl)
       ·refine zF.liftA kR dE ?_
        intro L T wS hL hd hcl hI K hK;try refine zA rfl ?_
        obtain⟨_,zt6,rfl⟩:=hI.v mm6 (hd 6);obtain⟨_,zt7,rfl⟩:=hI.v mm7 (hd 7);go_simp;exact hK _ _ (hI.y mm8 rfl)
       ·refine zF.liftA kR dE ?_
        intro L T wS hL hd hcl hI K hK;try refine zA rfl ?_
        obtain⟨_,zt8,rfl⟩:=hI.v mm8 (hd 8);have cc0:=hI.cell (sI) oM q1;have cc1:=hI.cell (sI) oM q2;go_simp;exact hK _ _ (hI.y mm9 rfl)
       ·refine zF.liftA kR dE ?_
        intro L T wS hL hd hcl hI K hK;try refine zA rfl ?_
        obtain⟨_,zt5,rfl⟩:=hI.v mm5 (hd 5);obtain⟨_,zt9,rfl⟩:=hI.v mm9 (hd 9);go_simp;refine(zHb _ _ y p _ (hov.ext hI.onl.lext).weak (hzv.ext hI.onl.lext).weak hyB.out hpB.out hp0.out).mono ?_;rintro e wa ⟨v,rfl,hv,hba⟩;exact hK _ _ ((hI.world hba).y zAC hv)
       ·refine zF.liftA kR dE ?_
        intro L T wS hL hd hcl hI K hK;try refine zA rfl ?_
        obtain⟨v10,zt10,h10⟩:=hI.v zAC (hd 10);go_simp;exact hK _ _ (hI.y zAJ h10)
       ·refine zF.liftA kR dE ?_
        intro L T wS hL hd hcl hI K hK;try refine zA rfl ?_
        obtain⟨v11,zt11,h11⟩:=hI.v zAJ (hd 11);obtain⟨qq,rr,rfl,hq,hr⟩:=h11;go_simp;exact hK _ _ (hI.y zAo hq)
       ·intro L T wS hL hd hcl hI K hK
        try refine zA rfl ?_
        obtain⟨w0,hJ,-,-⟩:=id hI;obtain⟨z11,zt11,hz11⟩:=hJ.val _ zAJ (hd 11);obtain⟨qq,rr,rfl,hq,hr⟩:DMV y p w0 z11:=hz11;go_simp;exact hK _ _ (hI.pure ⟨13,69,_⟩ zCF rfl (fun _=>trivial) dE (fun _=>zD9 dE dE))
       ·intro L T wS hL hd hcl hI K hK
        try refine zA rfl ?_
        obtain⟨w0,hJ,-,-⟩:=id hI;obtain⟨z11,zt11,hz11⟩:=hJ.val _ zAJ (hd 11);obtain⟨qq,rr,rfl,hq,hr⟩:DMV y p w0 z11:=hz11;go_simp;exact hK _ _ (hI.pure ⟨14,70,_⟩ zBp rfl (fun _=>rfl) dE (fun _=>zD9 dE dE))
       ·refine zF.liftA kR dE ?_
        intro L T wS hL hd hcl hI K hK;try refine zA rfl ?_
        obtain⟨_,zt0,rfl⟩:=hI.v mm0 (hd 0);obtain⟨_,zt1,rfl⟩:=hI.v mm1 (hd 1);go_simp;exact hK _ _ (hI.y zCS rfl)
       ·intro L T wS hL hd hcl hI K hK
        try refine zA rfl ?_
        replace hI:=hI.here hL;obtain⟨_,zt15,rfl⟩:=hI.v zCS (hd 15);obtain⟨z12,zt12,hz12⟩:=hI.v zAo (hd 12);obtain⟨vneg,vao,vlen,vcap,vls,rfl,hv'⟩:=id hz12;obtain⟨_,_,_,_,k1,k2,k3,k4,-⟩:=(hqs.only hI.onl sI).cell (zO hlt);go_simp;exact hK _ _ (RAS.store hI hL (by repeat' (first|exact xgn _|refine xgm.2 ⟨by dsimp only;decide,?_⟩)) dE (zF9 zt15 zt12).symm)
      intro T w8f hJ;obtain⟨w8,hI,-,hstw8⟩:=hJ;replace hstw8:=hstw8 kR;obtain⟨vz0,q0,rfl⟩:=hI.v mm0 rfl;obtain⟨vz1,q1,rfl⟩:=hI.v mm1 rfl;obtain⟨vz2,q2,rfl⟩:=hI.v mm2 rfl;obtain⟨vz3,q3,rfl⟩:=hI.v mm3 rfl;obtain⟨vz4,q4,rfl⟩:=hI.v mm4 rfl;obtain⟨vz5,q5,rfl⟩:=hI.v mm5 rfl;obtain⟨vz6,q6,rfl⟩:=hI.v mm6 rfl;obtain⟨vz7,q7,rfl⟩:=hI.v mm7 rfl;obtain⟨vz8,q8,rfl⟩:=hI.v mm8 rfl;obtain⟨vz9,q9,rfl⟩:=hI.v mm9 rfl;obtain⟨vz10,q10,hz10⟩:=hI.v zAC rfl;obtain⟨vz11,q11,hz11⟩:=hI.v zAJ rfl;obtain⟨vz12,q12,hz12⟩:=hI.v zAo rfl;replace hz12:zH w8 vz12 (y/p):=hz12;obtain⟨vz13,q13,hz13⟩:=hI.v zCF rfl;obtain⟨vz14,q14,rfl⟩:=hI.v zBp rfl;obtain⟨vz15,q15,rfl⟩:=hI.v zCS rfl;have hT:=zAH [(57,.slice (some ⟨qb,0,none⟩) R R),(58,.int .i64 i),(59,.slice (some ⟨rb,0,none⟩) j j),(60,.int .i64 c),(61,.pointer (some ⟨rb,c*2,none⟩)),(62,.agg #[.bool s2,.slice a2 l2 k2]),(63,.slice (some ⟨bi,0,none⟩) j rc),(64,.int .i64 c),(65,.pointer (some ⟨bi,c*2,none⟩)),(66,.agg #[.bool s,.slice a l k]),(67,vz10),(56,vz11),(68,vz12),(69,vz13),(70,.int .i64 0),(71,.pointer (some ⟨qb,i*2,none⟩))]
       (fun j hj=>hI.keep j (by simp only[xgm]at hj ⊢;simp[hj]))
       (by simp only[xgm];simp[q0,q1,q2,q3,q4,q5,q6,q7,q8,q9,q10,q11,q12,q13,q14,q15]) hI.size
      have how8:=hI.onl;clear hI;simp only[List.foldl_cons,List.foldl_nil,xgh,xgi,xgj,ptr]at hT;subst hT;clear q0 q1 q2 q3 q4 q5 q6 q7 q8 q9 q10 q11 q12 q13 q14 q15;have hbw8:=zD4 how8;obtain⟨qn,qa,ql,qc,qx,rfl,hqx⟩:=id hz12;have HQX:=xgw hqx;have hw9:=hstw8.trans (zF9 rfl rfl);have hq8:=hqs.below hbw8;have hset:=hq8.set (k:=i) (by rw[zD];exact hlt) hz12;rw[<-hw9,show y/p=zA7 j (ent M) x i from by rw[HQ.out,HQE.out],zDK]at hset;have hx9:=hset.2;have hr9:qC w8f rb (zM j (zBN j (ent M) x i)):=(hrs.below hbw8).old (by rw[hw9];exact zR _ _ _ _ _ _ _ (Ne.symm hqr)) hx9;have hrow9:qC w8f bi (zM j (ent M i)):=(hrow7.below hbw8).old (by rw[hw9];exact zR _ _ _ _ _ _ _ oM) hx9;have hb9:Below w.heap.size w w8f:=by rw[hw9];exact zT (zT (nx hbt hbw8) oM _ _) oM _ _
      have hq9:=hset.1;obtain⟨s9,a9,l9,c9,f1,f2,-,-,hv9⟩:=hq9.cell (zO hlt);rw[show qA (zA7 j (ent M) x) (fun _=>0) (i+1) i=q from by unfold qA;rw[if_pos oM,HQ.out]]at hv9;have sq:qF (Sm q):=⟨hB.bsm.sm _ hqB.out.1⟩;have sq2:qF (Sm (-q)):=⟨hB.bsm.sm _ (by rw[Int.natAbs_neg];exact hqB.out.1)⟩;have hlb:rb≠bi:=by omega
      clear hset hw9 hqx hstw8 hz12 q1 q2 o1 o2 hz10 hz11 hz13 hl3 hl4 how8;go_wp2_with fail
      refine(jN _ q w8f hv9.weak sq.out).mono ?_;rintro e w10 ⟨u,rfl,hu,hb10⟩;obtain⟨un,ua,ul,uc,ux,rfl,hu'⟩:=id hu;have HU:=xgw hu';have hr9:=hr9.below hb10;have hrow9:=hrow9.below hb10;have hq9:=hq9.below hb10;have hb9:=nx hb9 hb10;clear f1 f2 hu';go_wp2_with fail
      refine(zGP rb bi j j rc (zBN j (ent M) x i) (ent M i) _ (-q) w10 hr9 hrow9 hlb hu hC (xgf _) oM oM oM (fun t ht=>⟨hB.bsm.sm _ (HOK.out.rest i oM t ht),hB.bsm.sm _ (HOK.out.mat i hlt t ht),hB.bsm.sm _ (hqB.out.2 t ht)⟩) sq2.out).mono ?_;rintro e w11 ⟨⟨u11,rfl⟩,ho,hr11⟩;have hb11:Below w.heap.size w w11:=Below.only hb9 ho (xgf _) (fun b hb=>by simp at hb;omega);have hq11:=hq9.only ho (by simpa using hqr);have hrr:zM j (fun t=>zBN j (ent M) x i t+-q*ent M i t)=zM j (zBN j (ent M) x (i+1)):=zP fun t _=>by
       show _=zBN j (ent M) x i t+-(zA7 j (ent M) x i)*ent M i t;rw[HQ.out]
      rw[hrr]at hr11;go_wp2;go_roundw
      case rel=>exact⟨i+1,by omega,by simp,hb11,hq11,hr11⟩
      case measure=>simp[intOf];omega
    ·obtain rfl:i=R:=by omega
     rw[zDh]at hqs;go_wp2;refine bodyPost_ret (zCo rfl _ _ _) rfl ?_;exact⟨_,_,rfl,hqs.vec (zD _ _) (xgf _) oM,hrs.vec (zD _ _) (xgf _) oM,hbt⟩
structure zQB(C:Nat)(F:Nat->Nat->Int)(i:Nat)(last:Int):Prop where
 ok:∀k,k<i->zLL C F k
 lst:∀c:Nat,c<C->(last<c↔∀k,k<i->0<=lead C F k/\lead C F k<c)
structure zQa(w:World)(f:Value)(hr hc:Int)(H:List (List Int))(ur uc:Int)(U:List (List Int))(vr vc:Int)(V:List (List Int)):Prop where
 ex:∃h u v,f= .agg #[.int .i64 hr,.int .i64 hc,h,.int .i64 ur,.int .i64 uc,u,.int .i64 vr,.int .i64 vc,v]/\jB w h H/\jB w u U/\jB w v V
structure zQW(R C:Nat)(A:List (List Int))(hr hc:Int)(H:List (List Int))(ur uc:Int)(U:List (List Int))(vr vc:Int)(V:List (List Int)):Prop where
 is:zPo hr hc H
 er:hr=R
 ec:hc=C
 u:ur=R/\uc=R/\qX ur uc U
 v:vr=R/\vc=R/\qX vr vc V
 mul:zX R C (zCj U A R)=H
 inv:zX R R (zCj U V R)=zX R R idf
theorem zJV(v1 v2:Value)(R m C:Nat)(M1 M2:List (List Int))(w:World)(h1:yP w v1 R m M1)(h2:yP w v2 m C M2)(hF1:jK R m M1)(hF2:jK m C M2)(hR:R<=1000000)(hm:m<=1000000)(hC:C<=1000000)(hS:zCt M1 M2 R m C):
  Calls Tryz.prog 53 #[v1,v2] w fun e w'=>∃v,e= .returned v/\yP w' v R C (zX R C (zCj M1 M2 m))/\Below w.heap.size w w':=by
 refine(zGB v1 v2 R m C M1 M2 w h1 h2 hF1 hF2 hR hm hC hS).mono ?_;rintro e w' ⟨v,bs,rfl,h,hb⟩;exact⟨_,rfl,h.mat.1,hb⟩
def zQy:List (List Op × List Op)->W5->W5
 | [],z=>z
 |p::L,z=>zQy L (rnd z p.1 p.2)
def okL(R C:Nat)(L:List (List Op × List Op)):Prop:=∀p∈L,yA R p.1/\yA C p.2
def bl(f:Nat->Int)(i j:Nat)(m0 m1 m2 m3:Int)(a:Nat):Int:=if a=i then m0*f i+m1*f j else if a=j then m2*f i+m3*f j else f a
structure Dg(R C r:Nat)(F:Nat->Nat->Int):Prop where
 off:zKG R C F
 pos:∀i,i<r->0<F i i
 zero:∀i,r<=i->i<min R C->F i i=0
 le:r<=min R C
structure zQ4(M T R C Cu Cw r e:Nat)(y0 y:W5):Prop where
 dg:Dg R C r y.s
 muh:mu r y.s*2^e<=mu r y0.s
 prod:jE r (fun k=>y.s k k)=jE r (fun k=>y0.s k k)
 u:leM (M*(4*T*T)^e) R Cu y.u
 v:leM (M*(4*T*T)^e) R Cu y.v
 w:leM (M*(4*T*T)^e) C Cw y.w
 x:leM (M*(4*T*T)^e) C Cw y.x
def Chn(i n:Nat)(F:Nat->Nat->Int):Prop:=∀a b,i<=a->a<b->b<n->F a a∣F b b
def zRC(R C r:Nat)(A F:Nat->Nat->Int):Prop:=Dg R C r F/\∃u v w x,Rel R C A ⟨F,u,v,w,x⟩
def zQ9(R C k:Nat)(A:Nat->Nat->Int)(g:Int):Prop:=∀σ τ:Nat->Nat,(∀a,a<k->σ a<R)->(∀a,a<k->τ a<C)->g∣det k fun a b=>A (σ a) (τ b)
def Fac(R C:Nat)(F G:Nat->Nat->Int):Prop:=∃P Q:Nat->Nat->Int,∀a,a<R->∀b,b<C->G a b=qE R fun s=>P a s*qE C fun t=>F s t*Q t b
structure Inv(R C r:Nat)(A F:Nat->Nat->Int):Prop where
 dg:Dg R C r F
 chn:Chn 0 (min R C) F
 fwd:Fac R C A F
 bwd:Fac R C F A
theorem zPl:∃n:Nat,n=549755813888:=⟨_,rfl⟩
noncomputable def EB:Nat:=zPl.choose
noncomputable def BB:Nat:=2^EB
def zf:Nat->Nat->Int:=fun _ _=>0
def nzL(l:List Int):List Int:=l.filter (fun z=>decide (z≠0))


def zBu(w:World)(v:Value)(ls:List Int):Prop:=
 ∃ao n cap,v= .slice ao n cap/\ls.length=n/\n<=cap/\cap<=9223372036854775807/\(∀z∈ls,-9223372036854775808<=z/\z<=9223372036854775807)∧
  (ls≠ []->∃(b:Nat) (cs:Array Value),ao=some ⟨b,0,none⟩/\w.heap[b]?=some (.cells cs 2 (0,0))/\∀(k:Nat) (z:Int),ls[k]?=some z->cs[k]?=some (.int .i64 z))
theorem zBu.below{w w':World}{v:Value}{ls:List Int}(h:zBu w v ls)(hb:Below w.heap.size w w'):zBu w' v ls:=by
 obtain⟨ao,n,cap,h1,h2,h3,h4,h5,h6⟩:=h;refine⟨ao,n,cap,h1,h2,h3,h4,h5,fun hn=>?_⟩;obtain⟨b,cs,e1,e2,e3⟩:=h6 hn;exact⟨b,cs,e1,(hb.block _ (Array.getElem?_eq_some_iff.1 e2).1).trans e2,e3⟩
theorem zBu.cell{w:World}{ao:Option Addr}{n cap:Nat}{ls:List Int}(h:zBu w (.slice ao n cap) ls){k:Nat}(hk:k<ls.length):
  ∃b z,ao=some ⟨b,0,none⟩/\b<w.heap.size/\ls[k]?=some z/\w.cell? ⟨b,k,none⟩=some (.int .i64 z)/\-9223372036854775808<=z/\z<=9223372036854775807:=by
 obtain⟨ao',n',cap',h1,h2,h3,h4,h5,h6⟩:=h;injection h1 with e1 e2 e3
 subst e1;obtain⟨b,cs,e,hr,hc⟩:=h6 (by rintro rfl;simp at hk);have hz:=xga hk;have:=h5 _ (xgd hz);exact⟨b,_,e,(Array.getElem?_eq_some_iff.1 hr).1,hz,(cell_of_row w b k cs _ _ hr).trans (hc k _ hz),this.1,this.2⟩
end Go.Proofs.YtnbmaipobhppcaaGreat
