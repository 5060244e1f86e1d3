/- Joined. -/
import Derived.Test.YtkidaebmhlijlaaGreatS14
set_option linter.unusedVariables false
set_option linter.unusedSimpArgs false
set_option linter.unusedSectionVars false
set_option maxHeartbeats 16000000
set_option maxRecDepth 100000
variable{B C Cu Cw D M R T h n r r1 r2:Nat}{f g:Nat->Int}{c1 c2:Nat->Nat}{A F:Nat->Nat->Int}
namespace Go.Proofs.YtkidaebmhlijlaaGreat
open Go.RowKit
structure Rel(R C:Nat)(A:Nat->Nat->Int)(z:W5):Prop where
 s:∀a,a<R->∀b,b<C->z.s a b=qH R fun s=>z.u a s*qH C fun t=>A s t*z.w b t
 uv:∀a,a<R->∀b,b<R->dot R z.u z.v a b=idf a b
 vu:∀a,a<R->∀b,b<R->cod R z.v z.u a b=idf a b
 wx:∀a,a<C->∀b,b<C->dot C z.w z.x a b=idf a b
 xw:∀a,a<C->∀b,b<C->cod C z.x z.w a b=idf a b
theorem zH9(a b:Nat):idf a b=idf b a:=by unfold idf;split<;>split<;>omega
theorem zI2{a:Nat}(ha:a<n)(f:Nat->Int):qH n (fun t=>f t*idf t a)=f a:=by
 rw[zBB (c:=a) ha];unfold idf;rw[if_pos rfl,zAv];intro t ht hne;unfold idf;rw[if_neg hne,zZ]
theorem zIX(n:Nat):∀a,a<n->∀b,b<n->dot n idf idf a b=idf a b:=fun a ha b hb=>by
 unfold dot;rw[zL (g:=fun t=>idf a t*idf t b) (fun t ht=>by rw[zH9 b t]),zI2 hb]
theorem zQl(n:Nat):∀a,a<n->∀b,b<n->cod n idf idf a b=idf a b:=fun a ha b hb=>by
 unfold cod;rw[zL (g:=fun t=>idf a t*idf t b) (fun t ht=>by rw[zH9 t a]),zI2 hb]
theorem Rel.start(R C:Nat)(A:Nat->Nat->Int):Rel R C A ⟨A,idf,idf,idf,idf⟩:=
 ⟨fun a ha b hb=>by
  show A a b=qH R fun s=>idf a s*qH C fun t=>A s t*idf b t
  rw[<-zKe ha fun s=>qH C fun t=>A s t*idf b t,zL (g:=fun t=>A a t*idf t b) (fun t ht=>by rw[zH9 b t]),zI2 hb],
 zIX R,zQl R,zIX C,zQl C⟩
theorem Rel.rows{z:W5}{l:List Op}(h:Rel R C A z)(hl:jN R l):Rel R C A ⟨zA9 l z.s,zA9 l z.u,zMe l z.v,z.w,z.x⟩:=
 ⟨fun a ha b hb=>zNU (b:=b) (G:=fun s b=>qH C fun t=>A s t*z.w b t) hl (fun a ha=>h.s a ha b hb) a ha,zIn hl h.uv,fun a ha b hb=>by
  show cod R (zMe l z.v) (zA9 l z.u) a b=_;rw[zNT hl];exact h.vu a ha b hb,h.wx,h.xw⟩
theorem Rel.cols{z:W5}{l:List Op}(h:Rel R C A z)(hl:jN C l):Rel R C A ⟨trF (zA9 l (trF z.s)),z.u,z.v,zA9 l z.w,zMe l z.x⟩:=
 ⟨fun a ha b hb=>by
  have h1:∀b,b<C->trF z.s b a=qH C fun t=>z.w b t*qH R fun s=>z.u a s*A s t:=fun b hb=>by
   show z.s a b=_;rw[h.s a ha b hb];simp only[<-jH];rw[zBe];refine zL fun t ht=>zL fun s hs=>?_
   rw[qL (z.w b t),qI]
  have h2:=zNU (b:=a) (G:=fun t a=>qH R fun s=>z.u a s*A s t) hl h1 b hb;show zA9 l (trF z.s) b a=_;rw[h2];simp only[<-jH];rw[zBe];refine zL fun t ht=>zL fun s hs=>?_
  rw[qL (zA9 l z.w b s),qI],
 h.uv,h.vu,zIn hl h.wx,fun a ha b hb=>by
  show cod C (zMe l z.x) (zA9 l z.w) a b=_;rw[zNT hl];exact h.xw a ha b hb⟩
theorem Rel.back{z:W5}(h:Rel R C A z):∀a,a<R->∀b,b<C->A a b=qH R fun s=>z.v s a*qH C fun t=>z.s s t*z.x t b:=by
 intro a ha b hb;have e1:∀s,s<R->qH C (fun t=>z.s s t*z.x t b)=qH R fun s'=>z.u s s'*A s' b:=fun s hs=>by
  have g1:∀t,t<C->z.s s t*z.x t b=qH R fun s'=>z.u s s'*(qH C fun t'=>A s' t'*(z.w t t'*z.x t b)):=fun t ht=>by
   rw[h.s s hs t ht,<-zCw];refine zL fun s' hs'=>?_
   rw[qI,<-zCw];congr 1;exact zL fun t' ht'=>qI _ _ _
  rw[zL g1,zBe];refine zL fun s' hs'=>?_
  rw[jH,zBe];congr 1;have g2:∀t',t'<C->qH C (fun t=>A s' t'*(z.w t t'*z.x t b))=A s' t'*idf t' b:=fun t' ht'=>by
   rw[jH];have:=h.xw b hb t' ht';unfold cod at this;rw[zH9 t' b,<-this];congr 1;exact zL fun t ht=>qL _ _
  rw[zL g2,zI2 hb fun t'=>A s' t']
 rw[zL (fun s hs=>by rw[e1 s hs])];have g3:∀s,s<R->z.v s a*qH R (fun s'=>z.u s s'*A s' b)=qH R fun s'=>(z.v s a*z.u s s')*A s' b:=fun s hs=>by
  rw[<-jH];exact zL fun s' hs'=>(qI _ _ _).symm
 rw[zL g3,zBe];have g4:∀s',s'<R->qH R (fun s=>(z.v s a*z.u s s')*A s' b)=idf a s'*A s' b:=fun s' hs'=>by
  rw[zCw];congr 1;exact h.vu a ha s' hs'
 rw[zL g4];exact zKe ha fun s'=>A s' b
structure leW(M R C Cu Cw:Nat)(z:W5):Prop where
 s:leM M R C z.s
 u:leM M R Cu z.u
 v:leM M R Cu z.v
 w:leM M C Cw z.w
 x:leM M C Cw z.x
theorem leW.mono{M':Nat}{z:W5}(h:leW M R C Cu Cw z)(hM:M<=M'):leW M' R C Cu Cw z:=⟨h.s.mono hM,h.u.mono hM,h.v.mono hM,h.w.mono hM,h.x.mono hM⟩
theorem zJw(h:leM M R C F):leM M C R (trF F):=fun a ha b hb=>h b hb a ha
def rnd(z:W5)(l1 l2:List Op):W5:=⟨trF (zA9 l2 (trF (zA9 l1 z.s))),zA9 l1 z.u,zMe l1 z.v,zA9 l2 z.w,zMe l2 z.x⟩
theorem Rel.rnd{z:W5}{l1 l2:List Op}(h:Rel R C A z)(h1:jN R l1)(h2:jN C l2):Rel R C A (rnd z l1 l2):=(h.rows h1).cols h2
def GE(T:Nat):Nat:=(2*T)^KE
theorem zIM(h:1<=T):1<=GE T:=qP oM
theorem zUt{l:List Op}(hT:1<=T)(h:2*T*gro l<=(2*T)^KE):gro l<=GE T:=zB (qK _ oM) h
theorem zKA{z:W5}(hR:R<=4)(hC:C<=4)(hM:leW M R C Cu Cw z)(hT:leM T R C z.s)(hT1:1<=T)(hM1:1<=M)(hB:M*(GE T*GE T)<B)
  (hmid:∀l r c,jN R l->Hnf C R r c (zA9 l z.s)->leM T R C (zA9 l z.s)):
  ∃f l1 l2 r1 c1 r2 c2,(∀g,f<=g->zOY B R C Cu Cw g z=some (rnd z l1 l2))/\jN R l1/\jN C l2/\leW (M*(GE T*GE T)) R C Cu Cw (rnd z l1 l2)∧
   Hnf C R r1 c1 (zA9 l1 z.s)/\Hnf R C r2 c2 (zA9 l2 (trF (zA9 l1 z.s))):=by
 have hG:=zIM hT1;obtain⟨f1,l1,r1,c1,a1,a2,a3,a4⟩:=zLk (B:=B) (Ct:=Cu) hR ⟨z.s,z.u,z.v⟩ M T ⟨hM.s,hM.u,hM.v⟩ hT hT1 hM1 (fun G hG'=>by
  refine zJ (zF _ ?_) hB;have:G<=GE T:=zB (qK _ oM) hG';exact zB this (zQ _ hG))
 have hg1:=zUt hT1 a3;have hT2:=hmid l1 r1 c1 a2 a4;have hM2:leM (M*GE T) R C (zA9 l1 z.s):=(zDX a2 hM.s).mono (zF _ hg1);have hMG:M<=M*GE T:=zQ _ hG;obtain⟨f2,l2,r2,c2,b1,b2,b3,b4⟩:=zLk (B:=B) (Ct:=Cw) hC ⟨trF (zA9 l1 z.s),z.w,z.x⟩ (M*GE T) T ⟨zJw hM2,hM.w.mono hMG,hM.x.mono hMG⟩ (zJw hT2) hT1 (yA hM1 hG) (fun G hG'=>by
  rw[zC];refine zJ (zF _ (zF _ ?_)) hB;exact zB (qK _ oM) hG')
 have hg2:=zUt hT1 b3;have hMGG:M*GE T<=M*(GE T*GE T):=zF _ (zQ _ hG);have hm2:M*GE T*gro l2<=M*(GE T*GE T):=by
  rw[zC];exact zF _ (zF _ hg2)
 have hm3:M*gro l2<=M*(GE T*GE T):=zB (zO _ hMG) hm2;have hm1:M*gro l1<=M*(GE T*GE T):=zB (zF _ hg1) hMGG;refine⟨max f1 f2,l1,l2,r1,c1,r2,c2,fun g hg=>?_,a2,b2,⟨?_,?_,?_,?_,?_⟩,a4,b4⟩
 ·unfold zOY
  rw[a1 g oM,jV,zHQ];dsimp only;rw[b1 g oM,jV,zHQ];rfl
 exact(zJw (zDX b2 (zJw hM2))).mono hm2;exact(zDX a2 hM.u).mono hm1;exact(zKj a2 hM.v).mono hm1;exact(zDX b2 hM.w).mono hm3;exact(zKj b2 hM.x).mono hm3
structure Low(R C r:Nat)(F:Nat->Nat->Int):Prop where
 hnf:Hnf R C r (fun k=>k) (trF F)
 row:∀a,r<=a->a<R->∀b,b<C->F a b=0
 le:r<=R
theorem zL2{b:Nat}{l:List Op}(hl:jN n l):∀{F:Nat->Nat->Int},(∀a,a<n->F a b=0)->∀a,a<n->zA9 l F a b=0:=by
 intro F h a ha;rw[zK0 hl F a ha b];exact zBf fun t ht=>by rw[h t ht,zZ]
theorem second{H:Nat->Nat->Int}{l2:List Op}(hH:Hnf C R r1 c1 H)(hl:jN C l2)(h2:Hnf R C r2 c2 (zA9 l2 (trF H))):
  r2=r1/\(∀k,k<r1->c2 k=k)/\Low R C r1 (trF (zA9 l2 (trF H))):=by
 have hz:∀a,a<C->∀b,r1<=b->b<R->zA9 l2 (trF H) a b=0:=fun a ha b h3 h4=>zL2 hl (fun a' ha'=>hH.zero b h3 h4 a' ha') a ha
 have hdet:det r1 (fun a b=>trF H (c1 a) b)≠0:=by
  have e:(fun a b=>trF H (c1 a) b)=trp (fun a b=>H a (c1 b)):=rfl;rw[e,zCr,zFZ fun a ha b hb hab=>hH.ech.zero a ha _ (hH.ech.inc b a hab ha)];have:=jX (n:=r1) (f:=fun i=>H i (c1 i)) fun i hi=>hH.ech.pos i hi
  omega
 obtain⟨e1,e2⟩:=zJo h2 (fun a ha b _=>zEf hl (trF H) a ha b) hz hH.le (fun a ha=>hH.ech.lt a ha) hdet;subst e1;refine⟨rfl,fun k hk=>e2 k hk,⟨h2.le,⟨fun k hk=>?_,fun k hk=>?_,fun k hk t ht=>?_,fun k l h3 _=>h3⟩,fun i j h3 h4 _=>?_,h2.zero⟩,fun a h3 h4 b hb=>hz b hb a h3 h4,hH.le⟩;have:=h2.ech.lt k hk;rwa[e2 k hk]at this;have:=h2.ech.pos k hk;rw[e2 k hk]at this;exact this;exact h2.ech.zero k hk t (by rw[e2 k hk];exact ht);have:=h2.red i j h3 h4 trivial;rw[e2 j h4]at this;exact this
theorem Hnf.congr_c{c:Nat->Nat}(h:Hnf C n r c F)(he:∀k,k<r->c k=k):Hnf C n r (fun k=>k) F:=
 ⟨h.le,⟨fun k hk=>by have:=h.ech.lt k hk;rwa[he k hk]at this,fun k hk=>by have:=h.ech.pos k hk;rw[he k hk]at this;exact this,fun k hk t ht=>h.ech.zero k hk t (by rw[he k hk];exact ht),fun k l h3 _=>h3⟩,
  fun i j h3 h4 _=>by have:=h.red i j h3 h4 trivial;rw[he j h4]at this;exact this,h.zero⟩
theorem first{l1:List Op}(hF:Low R C r F)(hl:jN R l1)(h1:Hnf C R r1 c1 (zA9 l1 F)):
  r1=r/\Hnf C R r (fun k=>k) (zA9 l1 F)/\∀a,a<R->∀b,r<=b->b<C->zA9 l1 F a b=0:=by
 have hz:∀a,a<R->∀b,r<=b->b<C->zA9 l1 F a b=0:=fun a ha b h3 h4=>zL2 hl (fun a' ha'=>hF.hnf.zero b h3 h4 a' ha') a ha
 have hdet:det r (fun a b=>F a b)≠0:=by
  rw[zEJ (F:=F) fun a ha b hb hab=>hF.hnf.ech.zero b hb a hab];have:=jX (n:=r) (f:=fun i=>F i i) fun i hi=>hF.hnf.ech.pos i hi
  omega
 obtain⟨e1,e2⟩:=zJo (σ:=fun a=>a) h1 (fun a ha b _=>zEf hl F a ha b) hz hF.hnf.le (fun a ha=>by have:=hF.le;omega) hdet;subst e1;exact⟨rfl,h1.congr_c e2,hz⟩
def mu(r:Nat)(F:Nat->Nat->Int):Int:=yW r fun j=>yW (j+1) fun i=>F i i
theorem zFh(hf:∀i,i<n->0<f i)(hg:∀i,i<n->0<g i)(hd:∀i,i<n->f i∣g i)(h:yW n f=yW n g):∀i,i<n->f i=g i:=by
 induction n with
 |zero=>intro i hi;omega
 | succ n ih=>
  unfold yW at h;have h1:=jX (n:=n) (f:=f) fun i hi=>hf i oM
  have h2:=jX (n:=n) (f:=g) fun i hi=>hg i oM
  have h3:=zCy h2 (zG1 fun i hi=>hd i oM);have h4:=zCy (hg n oM) (hd n oM);have h5:=hf n oM;have h6:yW n f=yW n g:=by
   refine Int.le_antisymm h3 ?_;refine Int.not_lt.1 fun h7=>?_
   have:yW n f*f n<yW n g*f n:=Int.mul_lt_mul_of_pos_right h7 h5;have:yW n g*f n<=yW n g*g n:=zAH h4 oM;omega
  have h7:f n=g n:=by
   rw[h6]at h;exact zAG oM h
  intro i hi;by_cases e:i=n
  ·rw[e];exact h7
  exact ih (fun i hi=>hf i oM) (fun i hi=>hg i oM) (fun i hi=>hd i oM) h6 i oM
theorem zGq(hg:∀i,i<r->0<g i)(h:∀j,j<=r->yW j f=yW j g):∀i,i<r->f i=g i:=by
 intro i hi;have h1:=h i oM;have h2:=h (i+1) oM;unfold yW at h2;rw[h1]at h2;have:=jX (n:=i) (f:=g) fun k hk=>hg k oM
 exact zAG oM h2
theorem zX1{h:Nat}{A:Nat->Nat->Int}{z:W5}{l1 l2:List Op}{r1:Nat}{c1:Nat->Nat}{r2:Nat}{c2:Nat->Nat}(hR:R<=4)(hF:Low R C r z.s)(h1:jN R l1)(h2:jN C l2)
  (hn1:Hnf C R r1 c1 (zA9 l1 z.s)) (hn2:Hnf R C r2 c2 (zA9 l2 (trF (zA9 l1 z.s)))):
  Low R C r (rnd z l1 l2).s/\(mu r (rnd z l1 l2).s∣mu r z.s)/\(mu r (rnd z l1 l2).s=mu r z.s->zF9 R C (rnd z l1 l2).s):=by
 obtain⟨rfl,hH,hz⟩:=first hF h1 hn1
 obtain⟨rfl,e2,hL⟩:=second hH h2 hn2;have hn2':=hn2.congr_c e2;have hpF:∀i,i<r2->0<z.s i i:=fun i hi=>hF.hnf.ech.pos i hi
 have hpH:∀i,i<r2->0<zA9 l1 z.s i i:=fun i hi=>hH.ech.pos i hi
 have hpL:∀i,i<r2->0<(rnd z l1 l2).s i i:=fun i hi=>hL.hnf.ech.pos i hi
 have d1:∀j,j<=r2->yW j (fun i=>zA9 l1 z.s i i)∣yW j (fun i=>z.s i i):=fun j hj=>zRK hH (fun a ha b _=>zEf h1 z.s a ha b) hj fun a ha b hb hab=>hF.hnf.ech.zero b oM a hab
 have d2:∀j,j<=r2->yW j (fun i=>(rnd z l1 l2).s i i)∣yW j (fun i=>zA9 l1 z.s i i):=fun j hj=>
  zRK (F:=trF (zA9 l1 z.s)) (H:=zA9 l2 (trF (zA9 l1 z.s))) hn2' (fun a ha b _=>zEf h2 _ a ha b) hj fun a ha b hb hab=>hH.ech.zero b oM a hab
 refine⟨hL,zG1 fun j hj=>zD2 (d2 _ oM) (d1 _ oM),fun he=>?_⟩;have g1:=zFh (fun j hj=>jX fun i hi=>hpL i oM) (fun j hj=>jX fun i hi=>hpF i oM) (fun j hj=>zD2 (d2 (j+1) oM) (d1 (j+1) oM)) he;have g2:∀j,j<=r2->yW j (fun i=>zA9 l1 z.s i i)=yW j (fun i=>(rnd z l1 l2).s i i):=fun j hj=>by
  cases j with
  |zero=>rfl
  |succ j=>
   have k1:=g1 j oM;have k2:=zCy (jX fun i hi=>hpH i oM) (d2 (j+1) hj);have k3:=zCy (jX fun i hi=>hpF i oM) (d1 (j+1) hj);omega
 have g3:=zGq hpL g2;have g4:=zTZ (F:=trF (zA9 l1 z.s)) hn2' (fun a ha b _=>zEf h2 _ a ha b) (fun a ha b hb hab=>hH.ech.zero b hb a hab) g3 hF.le;intro a ha b hb hab;show zA9 l2 (trF (zA9 l1 z.s)) b a=0;rcases zG b r2 with k1|k1
 ·rcases zG a r2 with k2|k2
  ·rcases zG b a with k3|k3
   ·exact g4 b k1 a k2 k3
   exact hn2'.ech.zero b k1 a (show a<b by omega)
  exact hL.row a k2 ha b hb
 exact hn2'.zero b k1 hb a ha
def rnds:List (List Op × List Op)->W5->W5
 | [],z=>z
 |p::L,z=>rnds L (rnd z p.1 p.2)
def okL(R C:Nat)(L:List (List Op × List Op)):Prop:=∀p∈L,jN R p.1/\jN C p.2
theorem okL.cons{p:List Op × List Op}{L:List (List Op × List Op)}(h1:jN R p.1)(h2:jN C p.2)(h:okL R C L):okL R C (p::L):=fun q hq=>by
 rcases List.mem_cons.1 hq with rfl|hq
 exact⟨h1,h2⟩;exact h q hq
theorem Rel.rnds{L:List (List Op × List Op)}(hL:okL R C L):∀{z:W5},Rel R C A z->Rel R C A (rnds L z):=by
 induction L with
 |nil=>intro z h;exact h
 |cons p L ih=>
  intro z h;exact ih (fun q hq=>hL q (zR _ hq)) (h.rnd (hL p (zAC ..)).1 (hL p (zAC ..)).2)
theorem zU9(L:List (List Op × List Op)):∀{z y:W5},z.s=y.s->(rnds L z).s=(rnds L y).s:=by
 induction L with
 |nil=>intro z y h;exact h
 |cons p L ih=>
  intro z y h;refine ih ?_;show trF (zA9 p.2 (trF (zA9 p.1 z.s)))=trF (zA9 p.2 (trF (zA9 p.1 y.s)));rw[h]
theorem zTp{z:W5}(hR:R<=4)(h1:1<=h)(hA:leM h R C A)(hz:Rel R C A z)(hH:Hnf C R r (fun k=>k) z.s)(hcol:∀a,a<R->∀b,r<=b->b<C->z.s a b=0):(yW r (fun i=>z.s i i)).natAbs<=24*h^4:=
 zOC (zB hH.le hR) h1 hH hcol hA (P:=z.u) (Q:=fun t b=>z.w b t) (P':=fun a s=>z.v s a) (Q':=fun t b=>z.x t b) hz.s hz.back
theorem zOK{z:W5}(hR:R<=4)(h1:1<=h)(hA:leM h R C A)(hz:Rel R C A z)(hF:Low R C r z.s):(yW r (fun i=>z.s i i)).natAbs<=24*h^4:=
 zOC (A:=trF A) (H:=trF z.s) (zB hF.le hR) h1 hF.hnf (fun a ha b h2 h3=>hF.row b h2 h3 a ha) (zJw hA) (P:=z.w) (Q:=fun t b=>z.u b t) (P':=fun a s=>z.x s a) (Q':=fun t b=>z.v t b)
  (fun a ha b hb=>by
   show z.s b a=_;rw[hz.s b hb a ha];simp only[<-jH];rw[zBe];refine zL fun t ht=>zL fun s hs=>?_
   show z.u b s*(A s t*z.w a t)=z.w a t*(A s t*z.u b s);rw[jO,qL (z.u b s),qL (A s t),qI,jO,qL (z.u b s)];grind)
  (fun a ha b hb=>by
   show A b a=_;rw[hz.back b hb a ha];simp only[<-jH];rw[zBe];refine zL fun t ht=>zL fun s hs=>?_
   show z.v s b*(z.s s t*z.x t a)=z.x t a*(z.s s t*z.v s b);grind)
theorem zRe(hF:Low R C r F)(hT:(yW r (fun i=>F i i)).natAbs<=T):leM T R C F:=
 zJw (zLs hF.hnf (fun a ha b h2 h3=>hF.row b h2 h3 a ha) hT)
theorem zRk(hF:Low R C r F):0<mu r F:=jX fun j hj=>jX fun i hi=>hF.hnf.ech.pos i oM
theorem zIf{a b:Int}(ha:0<a)(hb:0<b)(h:a∣b)(hne:a≠b):2*a<=b:=by
 obtain⟨k,rfl⟩:=h;have hk:0<k:=by
  rcases zCf 0 k with h|h
  exact h;have:=zAr (zBT ha) h;omega
 have hk1:k≠1:=fun e=>hne (by rw[e,zAv])
 have:a*2<=a*k:=zAH oM oM;omega
theorem zSO{B:Nat}(hR:R<=4)(hC:C<=4)(h1:1<=h)(hA:leM h R C A)(hT1:1<=T)(hhT:24*h^4<=T):∀(N:Nat) (z zg:W5) (M:Nat),Low R C r z.s->leW M R C Cu Cw z->zg.s=z.s->Rel R C A zg->mu r z.s<2^N->
  1<=M->M*(GE T*GE T)^(N+1)<B->∃f rr L,(∀g,f<=g->zHZ B R C Cu Cw g rr z=some (rnds L z))/\okL R C L/\leW (M*(GE T*GE T)^(N+1)) R C Cu Cw (rnds L z)/\Low R C r (rnds L z).s/\zF9 R C (rnds L z).s:=by
 intro N;have hG2:1<=GE T*GE T:=yA (zIM hT1) (zIM hT1);induction N with
 |zero=>
  intro z zg M hF hM hs hz hmu hM1 hB;have:=zRk hF;omega
 | succ N ih=>
  intro z zg M hF hM hs hz hmu hM1 hB;have hsmall:leM T R C z.s:=zRe hF (zB (by
   have:=zOK hR h1 hA hz (by rw[hs];exact hF);rwa[hs]at this) hhT)
  have hB1:M*(GE T*GE T)<B:=zJ (zF _ (zBG oM _)) hB;obtain⟨f,l1,l2,r1,c1,r2,c2,a1,a2,a3,a4,a5,a6⟩:=zKA hR hC hM hsmall hT1 hM1 hB1 (fun l r' c hl hH=>by
   obtain⟨e,hH',hcol⟩:=first hF hl hH
   have:=zTp hR h1 hA (hz.rows hl) (by rw[hs];exact hH') (by rw[hs];exact hcol);rw[hs]at this;exact zLs hH' hcol (zB this hhT))
  obtain⟨b1,b2,b3⟩:=zX1 (h:=h) (A:=A) hR hF a2 a3 a5 a6;have hpow:M*(GE T*GE T)*(GE T*GE T)^(N+1)=M*(GE T*GE T)^(N+1+1):=by
   rw[zC,<-Nat.pow_succ']
  by_cases hd:zF9 R C (rnd z l1 l2).s
  ·refine⟨f,1,[(l1,l2)],fun g hg=>?_,okL.cons a2 a3 (fun p hp=>by cases hp),a4.mono (zF _ (zBG oM _)),b1,hd⟩
   unfold zHZ;rw[a1 g hg,jV,if_pos hd];rfl
  have hne:mu r (rnd z l1 l2).s≠mu r z.s:=fun e=>hd (b3 e)
  have hh:=zIf (zRk b1) (zRk hF) b2 hne;have hmu':mu r (rnd z l1 l2).s<2^N:=by
   have:(2:Int)^(N+1)=2^N*2:=Int.pow_succ 2 N;omega
  obtain⟨f',rr,L,k1,k2,k3,k4,k5⟩:=ih (rnd z l1 l2) (rnd zg l1 l2) (M*(GE T*GE T)) b1 a4 (by
   show trF (zA9 l2 (trF (zA9 l1 zg.s)))=trF (zA9 l2 (trF (zA9 l1 z.s)));rw[hs]) (hz.rnd a2 a3) hmu' (yA hM1 hG2) (by rw[hpow];exact hB)
  refine⟨max f f',rr+1,(l1,l2)::L,fun g hg=>?_,okL.cons a2 a3 k2,?_,k4,k5⟩
  ·unfold zHZ
   rw[a1 g oM,jV,if_neg hd,k1 g oM];rfl
  rw[<-hpow];exact k3
theorem zL4(h0:∀i,i<n->0<f i)(h:∀i,i<n->f i<=(D:Int)):yW n f<=((D^n:Nat):Int):=by
 induction n with
 |zero=>exact zDo _
 |succ n ih=>
  have h1:=ih (fun i hi=>h0 i oM) (fun i hi=>h i oM);have h2:=h n oM;have h3:=h0 n oM;have h4:=jX (n:=n) (f:=f) fun i hi=>h0 i oM
  have h5:yW n f*f n<=yW n f*(D:Int):=zAH h2 oM;have h6:yW n f*(D:Int)<=((D^n:Nat):Int)*(D:Int):=yK h1 oM;have h7:((D^(n+1):Nat):Int)=((D^n:Nat):Int)*(D:Int):=by rw[qF,yP]
  unfold yW;omega
theorem zJ4(h:∀i,i<r->0<f i):∀j,j<=r->yW j f<=yW r f:=by
 intro j hj;obtain⟨d,rfl⟩:=zAU hj;clear hj;induction d with
 |zero=>exact zDo _
 |succ d ih=>
  have h1:=ih (fun i hi=>h i oM);have h2:0<yW (j+d) f:=jX fun i hi=>h i oM
  have h3:=h (j+d) oM;have h4:yW (j+d) f*1<=yW (j+d) f*f (j+d):=zAH oM oM;show _<=yW (j+d) f*f (j+d);omega
theorem zXC(hr:r<=4)(hF:Low R C r F)(hD:(yW r (fun i=>F i i)).natAbs<=D)(hD1:1<=D):mu r F<=((D^4:Nat):Int):=by
 have hp:∀i,i<r->0<F i i:=fun i hi=>hF.hnf.ech.pos i hi
 have h1:=zL4 (n:=r) (f:=fun j=>yW (j+1) fun i=>F i i) (D:=D) (fun j hj=>jX fun i hi=>hp i oM) (fun j hj=>by
  have:=zJ4 hp (j+1) oM;omega)
 have h2:D^r<=D^4:=zDC hD1 hr;unfold mu;omega
theorem zUD{N:Nat}{z:W5}(hR:R<=4)(hC:C<=4)(h1:1<=h)(hA:leM h R C A)(hzs:z.s=A)(hM:leW M R C Cu Cw z)(hM1:1<=M)(hT:24*(8*h)^4<=T)(hN:(24*h^4)^4<2^N)(hB:M*(GE T*GE T)^(N+2)<B):
  ∃f rr L r,zHZ B R C Cu Cw f rr z=some (rnds L z)/\okL R C L/\leW (M*(GE T*GE T)^(N+2)) R C Cu Cw (rnds L z)/\Low R C r (rnds L z).s/\zF9 R C (rnds L z).s/\(yW r (fun i=>(rnds L z).s i i)).natAbs<=24*h^4:=by
 have hh4:h<=h^4:=zBG oM _;have hhT:24*h^4<=T:=zB (zF _ (jB oM _)) hT;have hT1:1<=T:=by omega
 have hG2:1<=GE T*GE T:=yA (zIM hT1) (zIM hT1);have hg0:Rel R C A ⟨A,idf,idf,idf,idf⟩:=Rel.start R C A;have hB1:M*(GE T*GE T)<B:=zJ (zF _ (zBG oM _)) hB;obtain⟨f,l1,l2,r1,c1,r2,c2,a1,a2,a3,a4,a5,a6⟩:=zKA hR hC hM (by rw[hzs];exact hA.mono oM) hT1 hM1 hB1 (fun l r' c hl hH=>by
  rw[hzs]at hH ⊢
  exact(zRJ hR h1 hH hA (fun a ha b _=>zEf hl A a ha b) (zIn hl (zIX R))).mono hT)
 obtain⟨-,-,hL⟩:=second a5 a3 a6;have hLow:Low R C r1 (rnd z l1 l2).s:=hL;have hgs:(rnd ⟨A,idf,idf,idf,idf⟩ l1 l2).s=(rnd z l1 l2).s:=by
  show trF (zA9 l2 (trF (zA9 l1 A)))=trF (zA9 l2 (trF (zA9 l1 z.s)));rw[hzs]
 have hg1:=hg0.rnd a2 a3;have hprod:∀L,okL R C L->∀r,Low R C r (rnds L z).s->(yW r (fun i=>(rnds L z).s i i)).natAbs<=24*h^4:=fun L hL' r hlow=>by
  have e:(rnds L ⟨A,idf,idf,idf,idf⟩).s=(rnds L z).s:=zU9 L hzs.symm;have:=zOK hR h1 hA (Rel.rnds hL' hg0) (by rw[e];exact hlow);rwa[e]at this
 by_cases hd:zF9 R C (rnd z l1 l2).s
 ·have hok:okL R C [(l1,l2)]:=okL.cons a2 a3 (fun p hp=>by cases hp)
  refine⟨f,1,[(l1,l2)],r1,?_,hok,a4.mono (zF _ (zBG oM _)),hLow,hd,hprod _ hok _ hLow⟩;unfold zHZ;rw[a1 f (xgf _),jV,if_pos hd];rfl
 have hpow:M*(GE T*GE T)*(GE T*GE T)^(N+1)=M*(GE T*GE T)^(N+2):=by
  rw[zC,<-Nat.pow_succ']
 have hmu:mu r1 (rnd z l1 l2).s<2^N:=by
  have hp1:=hprod [(l1,l2)] (okL.cons a2 a3 (fun p hp=>by cases hp)) r1 hLow;have:=zXC (zB hLow.le hR) hLow hp1 oM;have e:((2^N:Nat):Int)=(2:Int)^N:=by rw[zCa];rfl
  omega
 obtain⟨f',rr,L,k1,k2,k3,k4,k5⟩:=zSO hR hC h1 hA hT1 hhT N (rnd z l1 l2) (rnd ⟨A,idf,idf,idf,idf⟩ l1 l2) (M*(GE T*GE T)) hLow a4 hgs hg1 hmu (yA hM1 hG2) (by rw[hpow];exact hB);have hok:okL R C ((l1,l2)::L):=okL.cons a2 a3 k2;refine⟨max f f',rr+1,(l1,l2)::L,r1,?_,hok,?_,k4,k5,hprod _ hok _ k4⟩
 ·unfold zHZ
  rw[a1 _ oM,jV,if_neg hd,k1 _ oM];rfl
 rw[<-hpow];exact k3
end Go.Proofs.YtkidaebmhlijlaaGreat
