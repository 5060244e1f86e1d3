/- Joined. -/
import Derived.Test.YtkidaebmhlijlaaGreatD24
import Derived.Test.YtkidaebmhlijlaaGreatD25
set_option linter.unusedVariables false
set_option linter.unusedSimpArgs false
set_option linter.unusedSectionVars false
set_option maxHeartbeats 16000000
set_option maxRecDepth 100000
variable{L:(Nat->Int)->Prop}{cs:Array Go.Value}{last:Int}{M:List (List Int)}{C D M0 R a b d e h i k m n p q r r' t:Nat}{f g x y z:Nat->Int}{c κ π:Nat->Nat}{A B F F' G H K K' P S T T' U W:Nat->Nat->Int}{v:Go.Value}{w w':Go.World}
namespace Go.Proofs.YtkidaebmhlijlaaGreat
open Go.RowKit
structure Lat(C:Nat)(L:(Nat->Int)->Prop):Prop where
 zero:L fun _=>0
 ext:∀x y:Nat->Int,L x->(∀b,b<C->y b=x b)->L y
 add:∀x y,L x->L y->L fun b=>x b+y b
 sub:∀x y,L x->L y->L fun b=>x b-y b
theorem zLe(R C:Nat)(A:Nat->Nat->Int):Lat C (qG R C A):=
 ⟨qG.zero R C A,fun _ _ h e=>h.ext e,fun _ _ h k=>h.add k,fun x y h k=>(h.add (k.smul (-1))).ext fun b _=>oM⟩
def zJJ(L1 L2:(Nat->Int)->Prop)(x:Nat->Int):Prop:=L1 x/\L2 x
section
variable {C:Nat} {L M N:(Nat->Int)->Prop}
theorem zL1(k:Lat C M)(hx:L x):zFO C L M x:=⟨x,_,hx,k.zero,fun b _=>(yY _).symm⟩
theorem zJx(h:Lat C L)(hx:M x):zFO C L M x:=⟨_,x,h.zero,hx,fun b _=>(jV _).symm⟩
theorem zPr(h:Lat C L)(x:Nat->Int):zFO C L L x↔L x:=
 ⟨fun⟨u,v,hu,hv,e⟩=>h.ext _ _ (h.add u v hu hv) e,fun hx=>zL1 h hx⟩
end
def bB(h:Nat):Nat:=24*(8*h)^4
theorem HB.rows_min(hb:HB C m G (qG R C A)):zDW m R C A:=by
 obtain⟨X,hX⟩:=zB6 (F:=G) (G:=A) (p:=m) (q:=R) (C:=C) fun a ha=>(hb.iff _).2 (qG.row G ha)
 exact zDW.of_mul (F:=G) hX hb.min1
theorem HB.le_cols(h:HB C m G L):m<=C:=h.min1.cols
theorem zNk(hb:HB C m G (qG R C A))(hC:C<=4)(h1:1<=h)(hA:leM h R C A):leM (bB h) m C G:=
 hb.bound (R:=R) (W:=A) (by have:=hb.le_cols;omega) h1 hA (fun a ha=>qG.row A ha) hb.rows_min
def zIv(n:Nat)(F:Nat->Int):List Int:=(qZ n F).filter fun z=>decide (1<z)
theorem zGL(n:Nat)(F:Nat->Int):zIv (n+1) F=zIv n F++if 1<F n then [F n]else []:=by
 unfold zIv qZ;rw[zCi,zBe,List.filter_append];congr 1;by_cases h:1<F n
 ·rw[if_pos h];simp[h]
 rw[if_neg h];simp[h]
def zYs:List Int->Int
 | []=>1
 |z::zs=>z*zYs zs
def zEI(d:Nat)(T K:Nat->Nat->Int)(a b:Nat):Int:=if a<d then(if b<d then idf a b else-(T a (b-d)))else if b<d then 0 else K (a-d) (b-d)
theorem zRu(h:Fac R C K K'):Fac (d+R) (d+C) (zEI d T K) (zEI d T' K'):=by
 obtain⟨P,Q,hPQ⟩:=h;obtain⟨Qm,hQ1,hQ2⟩:∃Qm:Nat->Nat->Int,(∀t,t<d->∀b,Qm t b=if b<d then idf t b else(zT C fun s=>T t s*Q s (b-d))-T' t (b-d))/\∀t b,Qm (d+t) b=if b<d then 0 else Q t (b-d):=
  ⟨fun t b=>if t<d then(if b<d then idf t b else(zT C fun s=>T t s*Q s (b-d))-T' t (b-d))else if b<d then 0 else Q (t-d) (b-d),fun t ht b=>by dsimp only;rw[if_pos ht],fun t b=>by dsimp only;rw[if_neg oM,qS]⟩
 have hX1:∀s,s<d->∀b,b<d+C->(zT (d+C) fun t=>zEI d T K s t*Qm t b)=if b<d then idf s b else-(T' s (b-d)):=fun s hs b hb=>by
  rw[zGK,zAB hs fun t ht hne=>by
   unfold zEI;rw[if_pos hs,if_pos ht,show idf s t=0 from if_neg (fun e=>hne e.symm),zX]]
  have e1:zEI d T K s s=1:=by
   unfold zEI;rw[if_pos hs,if_pos hs];exact if_pos rfl
  have e2:(zT C fun t=>zEI d T K s (d+t)*Qm (d+t) b)=if b<d then 0 else-(zT C fun t=>T s t*Q t (b-d)):=by
   by_cases hbd:b<d
   ·rw[if_pos hbd]
    exact zAS fun t ht=>by rw[hQ2,if_pos hbd,zP]
   rw[if_neg hbd,<-zAz,<-yX];refine zF fun t ht=>?_
   rw[hQ2,if_neg hbd];unfold zEI;rw[if_pos hs,if_neg oM,qS,yA,zAz]
  rw[e1,e2,hQ1 s hs];by_cases hbd:b<d
  ·rw[if_pos hbd,if_pos hbd,if_pos hbd];omega
  rw[if_neg hbd,if_neg hbd,if_neg hbd];omega
 have hX2:∀s,s<R->∀b,b<d+C->(zT (d+C) fun t=>zEI d T K (d+s) t*Qm t b)=if b<d then 0 else zT C fun t=>K s t*Q t (b-d):=fun s hs b hb=>by
  rw[zGK,zAS (n:=d) fun t ht=>by
   unfold zEI;rw[if_neg oM,if_pos ht,zX],jV]
  have e0:∀t,zEI d T K (d+s) (d+t)=K s t:=fun t=>by
   unfold zEI;rw[if_neg oM,if_neg oM,qS,qS]
  by_cases hbd:b<d
  ·rw[if_pos hbd]
   exact zAS fun t ht=>by rw[hQ2,if_pos hbd,zP]
  rw[if_neg hbd];exact zF fun t ht=>by rw[hQ2,if_neg hbd,e0]
 refine⟨zEI d (fun _ _=>0) P,Qm,fun a ha b hb=>?_⟩;rw[zGK];have e1:(zT d fun s=>zEI d (fun _ _=>0) P a s*zT (d+C) fun t=>zEI d T K s t*Qm t b)=if a<d then(if b<d then idf a b else-(T' a (b-d)))else 0:=by
  by_cases had:a<d
  ·rw[if_pos had,zAB had fun s hs hne=>by
    unfold zEI;rw[if_pos had,if_pos hs,show idf a s=0 from if_neg (fun e=>hne e.symm),zX],hX1 a had b hb]
   have:zEI d (fun _ _=>0) P a a=1:=by
    unfold zEI;rw[if_pos had,if_pos had];exact if_pos rfl
   rw[this,jX]
  rw[if_neg had];exact zAS fun s hs=>by
   unfold zEI;rw[if_neg had,if_pos hs,zX]
 have e2:(zT R fun s=>zEI d (fun _ _=>0) P a (d+s)*zT (d+C) fun t=>zEI d T K (d+s) t*Qm t b)=if a<d then 0 else if b<d then 0 else K' (a-d) (b-d):=by
  by_cases had:a<d
  ·rw[if_pos had]
   exact zAS fun s hs=>by
    unfold zEI;rw[if_pos had,if_neg oM,Int.neg_zero,zX]
  rw[if_neg had];have e0:∀s,zEI d (fun _ _=>0) P a (d+s)=P (a-d) s:=fun s=>by
   unfold zEI;rw[if_neg had,if_neg oM,qS]
  by_cases hbd:b<d
  ·rw[if_pos hbd]
   exact zAS fun s hs=>by rw[hX2 s hs b hb,if_pos hbd,zP]
  rw[if_neg hbd,hPQ (a-d) oM (b-d) oM];exact zF fun s hs=>by rw[hX2 s hs b hb,if_neg hbd,e0]
 rw[e1,e2];unfold zEI;by_cases had:a<d
 ·rw[if_pos had,if_pos had,if_pos had,yY]
 rw[if_neg had,if_neg had,if_neg had,jV]
theorem Chn.at{j:Nat}(h:Chn t r F)(h1:t<=i)(h2:i<=j)(h3:j<r):F i i∣F j j:=by
 rcases Nat.eq_or_lt_of_le h2 with e|e
 ·subst e
  exact zAM _
 exact h i j h1 e h3
theorem zRv(h:Inv R C r K F):Inv (d+R) (d+C) (d+r) (zEI d T K) (zEI d (fun _ _=>0) F):=by
 have hm:min (d+R) (d+C)=d+min R C:=oM;have hlo:∀i,i<d->zEI d (fun _ _=>0) F i i=1:=fun i hi=>by
  unfold zEI;rw[if_pos hi,if_pos hi];exact if_pos rfl
 have hhi:∀i,¬ i<d->zEI d (fun _ _=>0) F i i=F (i-d) (i-d):=fun i hi=>by
  unfold zEI;rw[if_neg hi,if_neg hi]
 refine⟨⟨fun a ha b hb hne=>?_,fun i hi=>?_,fun i h1 h2=>?_,by have:=h.dg.le;omega⟩,fun i j h1 h2 h3=>?_,zRu h.fwd,zRu h.bwd⟩
 ·unfold zEI
  by_cases had:a<d
  ·rw[if_pos had]
   by_cases hbd:b<d
   ·rw[if_pos hbd]
    exact if_neg hne
   rw[if_neg hbd,Int.neg_zero]
  rw[if_neg had];by_cases hbd:b<d
  ·rw[if_pos hbd]
  rw[if_neg hbd];exact h.dg.off _ oM _ oM oM
 ·by_cases g:i<d
  ·rw[hlo i g];decide
  rw[hhi i g];exact h.dg.pos _ oM
 ·rw[hhi i oM]
  exact h.dg.zero _ oM oM
 by_cases g:i<d
 ·rw[hlo i g]
  exact Int.one_dvd _
 rw[hhi i g,hhi j oM];exact h.chn.at (zE _) oM oM
theorem zPD(hπ:∀b,b<n->π b<n)(h:∀a,a<R->∃y:Nat->Int,∀b,b<n->G a b=zT R fun s=>y s*F s (π b)):Fac R n F G:=by
 have hY:∃Y:Nat->Nat->Int,∀a,a<R->∀b,b<n->G a b=zT R fun s=>Y a s*F s (π b):=⟨fun a=>if ha:a<R then(h a ha).choose else fun _=>0,fun a ha b hb=>by
  dsimp only;rw[dif_pos ha];exact(h a ha).choose_spec b hb⟩
 obtain⟨Y,hY⟩:=hY;refine⟨Y,fun t b=>if t=π b then 1 else 0,fun a ha b hb=>?_⟩;rw[hY a ha b hb];refine zF fun s _=>?_
 rw[zAB (hπ b hb) fun t _ hne=>by dsimp only;rw[if_neg hne,zP]];dsimp only;rw[if_pos rfl,zAT]
theorem zEF(h:a<m)(b:Nat):zKJ m G a b=G a b:=if_pos h
theorem zGA(h:¬ a<m)(b:Nat):zKJ m G a b=0:=if_neg h
theorem zTA{S:Nat}(h:Fac R C F G)(hS:R<=S):Fac S C (zKJ R F) (zKJ R G):=by
 obtain⟨P,Q,hPQ⟩:=h;refine⟨fun a s=>if a<R then P a s else 0,Q,fun a ha b hb=>?_⟩;rw[zDm hS fun s h1 _=>by
  rw[zAS fun t _=>by rw[zGA oM,zX],zP]]
 by_cases g:a<R
 ·rw[zEF g,hPQ a g b hb]
  exact zF fun s hs=>by
   dsimp only;rw[if_pos g];exact congrArg _ (zF fun t _=>by rw[zEF hs])
 rw[zGA g];exact(zAS fun s _=>by dsimp only;rw[if_neg g,zX]).symm
theorem zTC{S:Nat}(h:Inv R C r K F)(hS:R<=S):Inv S C r (zKJ R K) (zKJ R F):=by
 have hle:=h.dg.le;refine⟨⟨fun a ha b hb hne=>?_,fun i hi=>by rw[zEF oM];exact h.dg.pos i hi,fun i h1 h2=>?_,oM⟩,fun i j h1 h2 h3=>?_,zTA h.fwd hS,zTA h.bwd hS⟩
 ·by_cases g:a<R
  ·rw[zEF g];exact h.dg.off a g b hb hne
  exact zGA g b
 ·by_cases g:i<R
  ·rw[zEF g];exact h.dg.zero i h1 oM
  exact zGA g i
 by_cases g:j<R
 ·rw[zEF g,zEF oM]
  exact h.chn i j (zE _) h2 oM
 rw[zGA g];exact zBr _
theorem zPY{S:Nat}(hS:R<=S)(h:∃y:Nat->Int,∀b,b<n->g b=zT R fun s=>y s*F s (π b)):∃y:Nat->Int,∀b,b<n->g b=zT S fun s=>y s*zKJ R F s (π b):=by
 obtain⟨y,hy⟩:=h;refine⟨y,fun b hb=>?_⟩;rw[hy b hb,zDm hS fun s h1 _=>by rw[zGA oM,zP]];exact zF fun s hs=>by rw[zEF hs]
theorem zU3{S:Nat}{π':Nat->Nat}(hF:Inv R n r A F)(hG:Inv S n r' B G)(hπ:∀b,b<n->π b<n)(hπ':∀b,b<n->π' b<n)
  (h1:∀a,a<S->∃y:Nat->Int,∀b,b<n->B a b=zT R fun s=>y s*A s (π b)) (h2:∀a,a<R->∃y:Nat->Int,∀b,b<n->A a b=zT S fun s=>y s*B s (π' b)):r=r'/\∀i,i<r->F i i=G i i:=by
 have hF2:=zTC hF (zBs R S);have hG2:=zTC hG (Nat.le_add_left S R);have z:∀(F:Nat->Nat->Int) (π:Nat->Nat) (g:Nat->Int),(∀b,b<n->g b=0)->∃y:Nat->Int,∀b,b<n->g b=zT (R+S) fun s=>y s*F s (π b):=fun F π g hg=>⟨fun _=>0,fun b hb=>by rw[hg b hb];exact(zAS fun s _=>zX _).symm⟩
 have f1:Fac (R+S) n (zKJ R A) (zKJ S B):=zPD hπ fun a ha=>by
  by_cases g:a<S
  ·obtain⟨y,hy⟩:=zPY (zBs R S) (h1 a g)
   exact⟨y,fun b hb=>by rw[zEF g];exact hy b hb⟩
  exact z _ _ _ fun b _=>zGA g b
 have f2:Fac (R+S) n (zKJ S B) (zKJ R A):=zPD hπ' fun a ha=>by
  by_cases g:a<R
  ·obtain⟨y,hy⟩:=zPY (Nat.le_add_left S R) (h2 a g)
   exact⟨y,fun b hb=>by rw[zEF g];exact hy b hb⟩
  exact z _ _ _ fun b _=>zGA g b
 obtain⟨e,h⟩:=hF2.unique_fac hG2 f1 f2;have l1:=hF.dg.le;have l2:=hG.dg.le;refine⟨e,fun i hi=>?_⟩;have:=h i oM;rwa[zEF oM,zEF oM]at this
theorem zNO(d r:Nat)(f:Nat->Int):zIv (d+r) (fun i=>if i<d then 1 else f (i-d))=zIv r f:=by
 induction r with
 | zero=>
  have:∀d',d'<=d->zIv d' (fun i=>if i<d then(1:Int)else f (i-d))= []:=fun d'=>by
   induction d' with
   |zero=>intro _;rfl
   |succ d' ih=>
    intro h;rw[zGL,ih oM,if_neg (by rw[if_pos oM];decide)];rfl
  exact this d (xgf d)
 |succ r ih=>
  show zIv (d+r+1) _=_;rw[zGL,zGL,ih,if_neg (show ¬ d+r<d by omega),qS]
theorem zRR(h:∀i,i<n->f i=g i):zIv n f=zIv n g:=by
 unfold zIv;rw[qY h]
theorem zTM{S:Nat}{T T':Nat->Nat->Int}(h:Inv R C r K F)(h':Inv S D r' K' F')
  (h1:∀a,a<C+S->∃y:Nat->Int,∀b,b<C+D->zEI C T' K' a b=zT (D+R) fun s=>y s*zEI D T K s (if b<C then D+b else b-C))
  (h2:∀a,a<D+R->∃y:Nat->Int,∀b,b<D+C->zEI D T K a b=zT (C+S) fun s=>y s*zEI C T' K' s (if b<D then C+b else b-D)):D+r=C+r'/\zIv r (fun i=>F i i)=zIv r' fun i=>F' i i:=by
 have g1:=zRv (d:=D) (T:=T) h;have g2:=zRv (d:=C) (T:=T') h';rw[zCp C D]at g2 h1;have hd:∀(d:Nat) (F:Nat->Nat->Int) (i:Nat),zEI d (fun _ _=>0) F i i=if i<d then 1 else F (i-d) (i-d):=fun d F i=>by
  unfold zEI;by_cases hi:i<d
  ·rw[if_pos hi,if_pos hi,if_pos hi]
   exact if_pos rfl
  rw[if_neg hi,if_neg hi,if_neg hi]
 obtain⟨e1,e2⟩:=zU3 (π:=fun b=>if b<C then D+b else b-C) (π':=fun b=>if b<D then C+b else b-D) g1 g2 (fun b hb=>by split<;>omega) (fun b hb=>by split<;>omega) h1 h2;refine⟨e1,?_⟩;have t1:=zNO D r fun i=>F i i
 have t2:=zNO C r' fun i=>F' i i
 rw[<-t1,<-t2,<-e1];exact zRR fun i hi=>by
  have:=e2 i hi;rwa[hd,hd]at this
theorem Ech.indep(h:Ech n m c G)(hy:∀b,b<n->(zT m fun t=>y t*G t b)=0):∀t,t<m->y t=0:=by
 intro t;induction t using Nat.strongRecOn with
 | ind t ih=>
  intro ht;have h1:=hy (c t) (h.lt t ht);rw[zAB ht fun s hs hne=>by
   rcases zAQ hne with g|g
   rw[ih s g hs,zX];rw[h.zero s hs _ (h.inc t s g hs),zP]]at h1
  have h2:=h.pos t ht;rcases Int.mul_eq_zero.1 h1 with g|g
  exact g;omega
theorem Ech.uniq(h:Ech n m c G)(hy:∀b,b<n->(zT m fun t=>y t*G t b)=zT m fun t=>z t*G t b):∀t,t<m->y t=z t:=fun t ht=>by
 have:=h.indep (y:=fun t=>y t-z t) (fun b hb=>by
  have e:(zT m fun t=>(y t-z t)*G t b)=(zT m fun t=>y t*G t b)+-1*zT m fun t=>z t*G t b:=by
   rw[<-yX,<-zBQ];exact zF fun t _=>by rw[zDz];omega
  rw[e,hy b hb];omega) t ht
 omega
def Ind(n m:Nat)(G:Nat->Nat->Int):Prop:=∀y z:Nat->Int,(∀b,b<n->(zT m fun t=>y t*G t b)=zT m fun t=>z t*G t b)->∀t,t<m->y t=z t
theorem Ech.ind(h:Ech n m c G):Ind n m G:=fun _ _ hy=>h.uniq hy
def zVw(D C:Nat)(A S:Nat->Nat->Int)(x y:Nat->Int)(b:Nat):Int:=(zT D fun t=>x t*A t b)+zT C fun t=>y t*S t b
theorem zMz{R:Nat}{B K:Nat->Nat->Int}{V:(Nat->Int)->Prop}{x y:Nat->Int}(hS:Ind n C S)(hT:∀a,a<D->∃v:Nat->Int,V v/\∀b,b<n->A a b=(zT C fun t=>T a t*S t b)+v b)
  (hadd:∀u v:Nat->Int,V u->V v->V fun b=>u b+v b) (hmul:∀(k:Int) (u:Nat->Int),V u->V fun b=>k*u b) (h0:V fun _=>0) (hsub:∀u:Nat->Int,V u->qG C n S u->qG R n B u) (hext:∀u v:Nat->Int,V u->(∀b,b<n->v b=u b)->V v)
  (hK:∀i,i<R->∀b,b<n->B i b=zT C fun t=>K i t*S t b) (h:V (zVw D C A S x y)):∃w:Nat->Int,∀b,b<D+C->(if b<D then x b else y (b-D))=zT (D+R) fun s=>w s*zEI D T K s b:=by
 obtain⟨z,hz⟩:∃z:Nat->Int,∀t,z t=y t+zT D fun a=>x a*T a t:=⟨_,fun _=>rfl⟩
 have hv:∃v:Nat->Int,V v/\∀b,b<n->(zT D fun a=>x a*A a b)=(zT C fun t=>(zT D fun a=>x a*T a t)*S t b)+v b:=by
  have:∀d,d<=D->∃v:Nat->Int,V v/\∀b,b<n->(zT d fun a=>x a*A a b)=(zT C fun t=>(zT d fun a=>x a*T a t)*S t b)+v b:=fun d=>by
   induction d with
   |zero=>
    intro _;refine⟨_,h0,fun b _=>?_⟩;have e:(zT C fun t=>(zT 0 fun a=>x a*T a t)*S t b)=0:=zAS fun t _=>zX _
    rw[e];rfl
   | succ d ih=>
    intro hd;obtain⟨v,h1,h2⟩:=ih oM;obtain⟨u,h3,h4⟩:=hT d oM;refine⟨_,hadd _ _ h1 (hmul (x d) _ h3),fun b hb=>?_⟩;show(zT d fun a=>x a*A a b)+x d*A d b=_;have e:(zT C fun t=>(zT (d+1) fun a=>x a*T a t)*S t b)=(zT C fun t=>(zT d fun a=>x a*T a t)*S t b)+x d*zT C fun t=>T d t*S t b:=by
     rw[<-yX,<-zBQ];exact zF fun t _=>by
      show((zT d fun a=>x a*T a t)+x d*T d t)*S t b=_;rw[zA2,qK]
    rw[e,h2 b hb,h4 b hb,zCb];omega
  exact this D (xgf D)
 obtain⟨v,hv1,hv2⟩:=hv;have hzS:V fun b=>zT C fun t=>z t*S t b:=by
  refine hext _ _ (hadd _ _ h (hmul (-1) _ hv1)) fun b hb=>?_
  unfold zVw;rw[hv2 b hb];have e:(zT C fun t=>z t*S t b)=(zT C fun t=>y t*S t b)+zT C fun t=>(zT D fun a=>x a*T a t)*S t b:=by
   rw[<-zBQ];exact zF fun t _=>by rw[hz,zA2]
  rw[e];omega
 obtain⟨w0,hw0⟩:=hsub _ hzS ⟨z,fun b _=>rfl⟩;have hzw:∀t,t<C->z t=zT R fun i=>w0 i*K i t:=hS _ _ fun b hb=>by
  have e1:=hw0 b hb;dsimp only at e1;rw[e1,zCZ];exact zF fun i hi=>by rw[hK i hi b hb]
 refine⟨fun s=>if s<D then x s else w0 (s-D),fun b hb=>?_⟩;rw[zGK];have e1:(zT D fun s=>(if s<D then x s else w0 (s-D))*zEI D T K s b)=if b<D then x b else-(zT D fun a=>x a*T a (b-D)):=by
  by_cases hbd:b<D
  ·rw[if_pos hbd,zAB hbd fun s hs hne=>by
    unfold zEI;rw[if_pos hs,if_pos hs,if_pos hbd,show idf s b=0 from if_neg hne,zP]]
   unfold zEI;rw[if_pos hbd,if_pos hbd,if_pos hbd,show idf b b=1 from if_pos rfl,zAT]
  rw[if_neg hbd,<-zAz,<-yX];refine zF fun s hs=>?_
  unfold zEI;rw[if_pos hs,if_pos hs,if_neg hbd,zC6,zAz]
 have e2:(zT R fun s=>(if D+s<D then x (D+s)else w0 (D+s-D))*zEI D T K (D+s) b)=if b<D then 0 else zT R fun s=>w0 s*K s (b-D):=by
  by_cases hbd:b<D
  ·rw[if_pos hbd]
   refine zAS fun s _=>?_
   unfold zEI;rw[if_neg (show ¬ D+s<D by omega),if_neg (show ¬ D+s<D by omega),if_pos hbd,zP]
  rw[if_neg hbd];refine zF fun s _=>?_
  unfold zEI;rw[if_neg (show ¬ D+s<D by omega),if_neg (show ¬ D+s<D by omega),if_neg hbd,qS]
 rw[e1,e2];by_cases hbd:b<D
 ·rw[if_pos hbd,if_pos hbd,if_pos hbd,yY]
 rw[if_neg hbd,if_neg hbd,if_neg hbd];have:=hzw (b-D) oM;rw[hz]at this;omega
theorem zRE(h:r<=n)(hz:∀i,r<=i->i<n->f i=0):zT n f=zT r f:=zDm h hz
theorem zZg:(∀u v:Nat->Int,qG R n B u->qG R n B v->qG R n B fun b=>u b+v b)/\(∀(k:Int) (u:Nat->Int),qG R n B u->qG R n B fun b=>k*u b)/\(qG R n B fun _=>0)/\∀u v:Nat->Int,qG R n B u->(∀b,b<n->v b=u b)->qG R n B v:=
 ⟨fun _ _ h k=>h.add k,fun k _ h=>h.smul k,qG.zero _ _ _,fun _ _ h e=>h.ext e⟩
theorem zO6(ha:a<d):zEI d T K a b=if b<d then idf a b else-(T a (b-d)):=if_pos ha
theorem zO5(ha:¬ a<d):zEI d T K a b=if b<d then 0 else K (a-d) (b-d):=if_neg ha
theorem zUE{t:Nat->Int}(ha:a<D):zVw D C A S (fun i=>idf a i) (fun j=>-(t j)) b=A a b-zT C fun j=>t j*S j b:=by
 have e1:(zT D fun i=>idf a i*A i b)=A a b:=by
  rw[zAB ha fun i _ hne=>by rw[show idf a i=0 from if_neg (fun e=>hne e.symm),zX],show idf a a=1 from if_pos rfl,jX]
 show(zT D fun i=>idf a i*A i b)+(zT C fun j=>-(t j)*S j b)=_;rw[e1];have:(zT C fun j=>-(t j)*S j b)=-1*zT C fun j=>t j*S j b:=by
  rw[<-yX];exact zF fun j _=>by rw[yA,zAz]
 rw[this];omega
theorem zUF{k:Nat->Int}:zVw D C A S (fun _=>0) k b=zT C fun j=>k j*S j b:=by
 unfold zVw;rw[zAS fun i _=>zX _,jV]
theorem zJD:zVw D C A S x y b=zVw C D S A y x b:=Int.add_comm _ _
theorem zPM{R Q r r':Nat}{B M T T' K K' F F':Nat->Nat->Int}(hS:Ind n C S)(hA:Ind n D A)
  (hT:∀a,a<D->∀b,b<n->A a b=zT C fun t=>T a t*S t b) (hT':∀a,a<C->∃v:Nat->Int,qG R n B v/\∀b,b<n->S a b=(zT D fun t=>T' a t*A t b)+v b)
  (hK:∀i,i<R->∀b,b<n->B i b=zT C fun t=>K i t*S t b) (hK':∀i,i<Q->∀b,b<n->M i b=zT D fun t=>K' i t*A t b)
  (hM:∀x,qG Q n M x↔qG D n A x/\qG R n B x) (h:Inv R C r K F) (h':Inv Q D r' K' F'):D+r=C+r'/\zIv r (fun i=>F i i)=zIv r' fun i=>F' i i:=by
 obtain⟨v1,v2,v3,v4⟩:=zZg (R:=R) (n:=n) (B:=B);have p1:∀x y:Nat->Int,qG R n B (zVw D C A S x y)->∃w:Nat->Int,∀b,b<D+C->(if b<D then x b else y (b-D))=zT (D+R) fun s=>w s*zEI D T K s b:=fun x y hv=>
  zMz (V:=qG R n B) hS (fun a ha=>⟨_,v3,fun b hb=>by rw[hT a ha b hb,yY]⟩) v1 v2 v3 (fun u hu _=>hu) v4 hK hv
 have p2:∀x y:Nat->Int,qG R n B (zVw C D S A x y)->∃w:Nat->Int,∀b,b<C+D->(if b<C then x b else y (b-C))=zT (C+Q) fun s=>w s*zEI C T' K' s b:=fun x y hv=>
  zMz (V:=qG R n B) hA hT' v1 v2 v3 (fun u hu hu2=>(hM u).2 ⟨hu2,hu⟩) v4 hK' hv
 refine zTM (T:=T) (T':=T') h h' (fun a ha=>?_) fun a ha=>?_
 ·-- the rows of the second presentation
  by_cases had:a<C
  ·obtain⟨v,hv1,hv2⟩:=hT' a had
   obtain⟨w,hw⟩:=p1 (fun j=>-(T' a j)) (fun i=>idf a i) (v4 _ _ hv1 fun b hb=>by
    rw[zJD,zUE had,hv2 b hb];omega)
   refine⟨w,fun b hb=>?_⟩;by_cases hbc:b<C
   ·have:=hw (D+b) oM
    rw[if_neg oM,qS]at this;rw[if_pos hbc,<-this,zO6 had,if_pos hbc]
   have:=hw (b-C) oM;rw[if_pos oM]at this;rw[if_neg hbc,<-this,zO6 had,if_neg hbc]
  have hq:a-C<Q:=oM;obtain⟨w,hw⟩:=p1 (fun j=>K' (a-C) j) (fun _=>0) (v4 _ _ ((hM _).1 (qG.row M hq)).2 fun b hb=>by rw[zJD,zUF,hK' _ hq b hb]);refine⟨w,fun b hb=>?_⟩;by_cases hbc:b<C
  ·have:=hw (D+b) oM
   rw[if_neg oM]at this;rw[if_pos hbc,<-this,zO5 had,if_pos hbc]
  have:=hw (b-C) oM;rw[if_pos oM]at this;rw[if_neg hbc,<-this,zO5 had,if_neg hbc]
 by_cases had:a<D
 ·obtain⟨w,hw⟩:=p2 (fun j=>-(T a j)) (fun i=>idf a i) (v4 _ _ v3 fun b hb=>by
   rw[zJD,zUE had,hT a had b hb];omega)
  refine⟨w,fun b hb=>?_⟩;by_cases hbc:b<D
  ·have:=hw (C+b) oM
   rw[if_neg oM,qS]at this;rw[if_pos hbc,<-this,zO6 had,if_pos hbc]
  have:=hw (b-D) oM;rw[if_pos oM]at this;rw[if_neg hbc,<-this,zO6 had,if_neg hbc]
 have hq:a-D<R:=oM;obtain⟨w,hw⟩:=p2 (fun j=>K (a-D) j) (fun _=>0) (v4 _ _ (qG.row B hq) fun b hb=>by rw[zJD,zUF,hK _ hq b hb]);refine⟨w,fun b hb=>?_⟩;by_cases hbc:b<D
 ·have:=hw (C+b) oM
  rw[if_neg oM]at this;rw[if_pos hbc,<-this,zO5 had,if_pos hbc]
 have:=hw (b-D) oM;rw[if_pos oM]at this;rw[if_neg hbc,<-this,zO5 had,if_neg hbc]
theorem zI3(hB:zDW R R n B)(hK:∀i,i<R->∀b,b<n->B i b=zT C fun t=>K i t*S t b)(h:Inv R C r K F):r=R:=by
 have hle:=h.dg.le;obtain⟨P,Q,hPQ⟩:=h.bwd;refine zB1 oM (zIN (q:=r) (X:=P) (G:=fun s b=>zT C fun t=>(F s s*Q s t)*S t b) (fun a ha b hb=>?_) hB);rw[hK a ha b hb];have e1:(zT C fun t=>K a t*S t b)=zT C fun t=>(zT r fun s=>P a s*(F s s*Q s t))*S t b:=zF fun t ht=>by
  rw[hPQ a ha t ht,zRE (show r<=R by omega) fun s h1 h2=>?_]
  ·refine congrArg (· *S t b) (zF fun s hs=>congrArg _ ?_)
   exact zAB oM fun u hu hne=>by rw[h.dg.off s oM u hu (fun e=>hne e.symm),zX]
  rw[zAS fun u hu=>?_,zP];by_cases e:s=u
  ·rw[<-e,h.dg.zero s h1 oM,zX]
  rw[h.dg.off s h2 u hu e,zX]
 rw[e1,zCZ]
theorem Ind.image(h:Ind n m G)(hW:∀a,a<n->∀b,b<n->(zT n fun t=>W a t*U t b)=idf a b):Ind n m fun a b=>zT n fun t=>G a t*W t b:=by
 intro y z hyz;refine h y z fun b hb=>?_
 have e:∀y:Nat->Int,(zT m fun t=>y t*G t b)=zT n fun u=>(zT m fun t=>y t*zT n fun s=>G t s*W s u)*U u b:=fun y=>by
  have e1:∀u,(zT m fun t=>y t*zT n fun s=>G t s*W s u)=zT n fun s=>(zT m fun t=>y t*G t s)*W s u:=fun u=>(zCZ y G fun s=>W s u).symm
  have e2:(zT n fun u=>(zT m fun t=>y t*zT n fun s=>G t s*W s u)*U u b)=zT n fun u=>(zT n fun s=>(zT m fun t=>y t*G t s)*W s u)*U u b:=zF fun u _=>by rw[e1]
  rw[e2,zCZ];have e3:(zT n fun s=>(zT m fun t=>y t*G t s)*zT n fun u=>W s u*U u b)=zT n fun s=>(zT m fun t=>y t*G t s)*idf s b:=zF fun s hs=>by rw[hW s hs b hb]
  rw[e3,zAB hb fun s _ hne=>by rw[show idf s b=0 from if_neg hne,zP],show idf b b=1 from if_pos rfl,zAT]
 rw[e y,e z];exact zF fun u hu=>by rw[hyz u hu]
def zL9(n:Nat)(x:Nat->Int)(U:Nat->Nat->Int)(b:Nat):Int:=zT n fun t=>x t*U t b
theorem zFb(y:Nat->Int)(G U:Nat->Nat->Int)(b:Nat):zL9 n (fun b=>zT m fun a=>y a*G a b) U b=zT m fun a=>y a*zL9 n (G a) U b:=zCZ y G fun t=>U t b
theorem zES(U:Nat->Nat->Int)(b:Nat)(h:∀t,t<n->x t=y t):zL9 n x U b=zL9 n y U b:=zF fun t ht=>by rw[h t ht]
theorem zLn(h:∀a,a<n->∀b,b<n->(zT n fun t=>U a t*W t b)=idf a b)(x:Nat->Int)(hb:b<n):zL9 n (zL9 n x U) W b=x b:=by
 show(zT n fun t=>(zT n fun s=>x s*U s t)*W t b)=_;rw[zCZ];have e:(zT n fun s=>x s*zT n fun t=>U s t*W t b)=zT n fun s=>x s*idf s b:=zF fun s hs=>by rw[h s hs b hb]
 rw[e,zAB hb fun s _ hne=>by rw[show idf s b=0 from if_neg hne,zP],show idf b b=1 from if_pos rfl,zAT]
def ImL(n:Nat)(U:Nat->Nat->Int)(L:(Nat->Int)->Prop)(x:Nat->Int):Prop:=∃y,L y/\∀b,b<n->x b=zL9 n y U b
theorem zSY(hL:Lat n L)(h:∀a,a<n->∀b,b<n->(zT n fun t=>U a t*W t b)=idf a b)(hx:ImL n U L x):L (zL9 n x W):=by
 obtain⟨y,hy,e⟩:=hx;exact hL.ext y _ hy fun b hb=>(zES W b e).trans (zLn h y hb)
theorem zXE{C2 R2 r r':Nat}{S2 B2 K K2 W F F':Nat->Nat->Int}{Ls Lb:(Nat->Int)->Prop}(hS:HB n C S Ls)(hS2:HB n C2 S2 (ImL n U Ls))(hB:HB n R B Lb)(hB2:HB n R2 B2 (ImL n U Lb))
  (hUW:∀a,a<n->∀b,b<n->(zT n fun t=>U a t*W t b)=idf a b) (hWU:∀a,a<n->∀b,b<n->(zT n fun t=>W a t*U t b)=idf a b)
  (hK:∀i,i<R->∀b,b<n->B i b=zT C fun t=>K i t*S t b) (hK2:∀i,i<R2->∀b,b<n->B2 i b=zT C2 fun t=>K2 i t*S2 t b)
  (h:Inv R C r K F) (h':Inv R2 C2 r' K2 F'):C2+r=C+r'/\zIv r (fun i=>F i i)=zIv r' fun i=>F' i i:=by
 obtain⟨κ,hκ⟩:=hS.hnf;obtain⟨κ2,hκ2⟩:=hS2.hnf;have lat:∀{m:Nat} {G:Nat->Nat->Int} {L:(Nat->Int)->Prop},HB n m G L->Lat n L:=fun {m G L} hb=>by
  have:=zLe m n G;refine⟨(hb.iff _).2 this.zero,fun x y hx e=>(hb.iff _).2 (this.ext _ _ ((hb.iff _).1 hx) e),fun x y hx hy=>(hb.iff _).2 (this.add _ _ ((hb.iff _).1 hx) ((hb.iff _).1 hy)),fun x y hx hy=>(hb.iff _).2 (this.sub _ _ ((hb.iff _).1 hx) ((hb.iff _).1 hy))⟩
 obtain⟨T,hT⟩:=zB6 (F:=fun a=>zL9 n (S2 a) W) (G:=S) (p:=C2) (q:=C) (C:=n) fun a ha=>(hS.iff _).1 (zSY (lat hS) hUW ((hS2.iff _).2 (qG.row S2 ha)))
 obtain⟨T',hT'⟩:=zB6 (F:=fun a=>zL9 n (S a) U) (G:=S2) (p:=C) (q:=C2) (C:=n) fun a ha=>(hS2.iff _).1 ⟨S a,(hS.iff _).2 (qG.row S ha),fun _ _=>rfl⟩
 refine zPM (A:=fun a=>zL9 n (S2 a) W) (M:=fun a=>zL9 n (B2 a) W) (K':=K2) (T:=T) (T':=T') hκ.ech.ind (hκ2.ech.ind.image hWU) hT (fun a ha=>⟨_,qG.zero _ _ _,fun b hb=>?_⟩) hK (fun i hi b hb=>?_) (fun x=>⟨fun hx=>?_,fun hx=>?_⟩) h h'
 ·rw[<-zLn hUW (S a) hb,zES W b fun t ht=>hT' a ha t ht,zFb]
  exact(yY _).symm
 ·show zL9 n (B2 i) W b=_
  rw[zES W b fun t ht=>hK2 i hi t ht,zFb]
 ·obtain⟨y,hy⟩:=hx
  have e:∀b,b<n->x b=zL9 n (fun b=>zT R2 fun a=>y a*B2 a b) W b:=fun b hb=>by rw[zFb,hy b hb]
  have hb:Lb x:=(lat hB).ext _ _ (zSY (lat hB) hUW ((hB2.iff _).2 ⟨y,fun _ _=>rfl⟩)) e;refine⟨⟨fun t=>zT R2 fun a=>y a*K2 a t,fun b hb=>?_⟩,(hB.iff _).1 hb⟩;rw[hy b hb,zCZ];refine zF fun a ha=>congrArg _ ?_
  show zL9 n (B2 a) W b=_;rw[zES W b fun t ht=>hK2 a ha t ht,zFb]
 obtain⟨y,hy⟩:=(hB2.iff _).1 (show ImL n U Lb (zL9 n x U) from⟨x,(hB.iff _).2 hx.2,fun _ _=>rfl⟩);refine⟨y,fun b hb=>?_⟩;rw[<-zLn hUW x hb,zES W b fun t ht=>hy t ht,zFb]
theorem zUa(hP:Hnf n m m c P)(hB:leM h R n B)(hK:∀i,i<R->∀b,b<n->B i b=zT m fun t=>K i t*P t b)(hi:i<R):∀t,t<m->(K i t).natAbs<=2^t*h:=by
 intro t;induction t using Nat.strongRecOn with
 | ind t ih=>
  intro ht;have hp:=hP.ech.pos t ht;have hc:=hP.ech.lt t ht;obtain⟨p,hpe⟩:∃p,(P t (c t)).natAbs=p:=⟨_,rfl⟩;have hp1:1<=p:=oM;have e:=hK i hi (c t) hc;rw[zDm (n:=t+1) ht fun s h1 h2=>by rw[hP.ech.zero s h2 (c t) (hP.ech.inc t s oM h2),zP]]at e;have e':B i (c t)=(zT t fun s=>K i s*P s (c t))+K i t*P t (c t):=e;have hg:∀k,k<=t->(zT k fun s=>K i s*P s (c t)).natAbs+h*p<=2^k*(h*p):=fun k=>by
   induction k with
   |zero=>intro _;simp[zT]
   | succ k ihk=>
    intro hk;have h1:=ihk oM;have h2:(K i k*P k (c t)).natAbs<=2^k*(h*p):=by
     have h3:=hP.red k t oM ht trivial;rw[qV,<-zC];exact qO (ih k oM oM) oM
    have h4:(zT (k+1) fun s=>K i s*P s (c t)).natAbs<=(zT k fun s=>K i s*P s (c t)).natAbs+(K i k*P k (c t)).natAbs:=Int.natAbs_add_le _ _;rw[qI,zN (2^k) 2,zC,Nat.two_mul];omega
  have h1:=hg t (xgf t);have h2:=hB i hi (c t) hc;have h3:h<=h*p:=zO _ hp1;have h4:(K i t*P t (c t)).natAbs<=2^t*(h*p):=oM;rw[qV,hpe,<-zC]at h4;exact Nat.le_of_mul_le_mul_right h4 oM
theorem zMV(hP:Hnf n m m c P)(hm:m<=4)(hB:leM h R n B)(hK:∀i,i<R->∀b,b<n->B i b=zT m fun t=>K i t*P t b):leM (8*h) R m K:=fun i hi t ht=>
 zB (zUa hP hB hK hi t ht) (zM _ (zB (zQ oM (show t<=3 by omega)) dE))
theorem zXA(A:Nat->Nat->Int):∀a,a<n->∀b,b<C->A a b=zT n fun t=>idf a t*A t b:=fun a ha b _=>by
 rw[zAB ha (fun i _ hne=>by rw[show idf a i=0 from if_neg (fun e=>hne e.symm),zX]),show idf a a=1 from if_pos rfl,jX]
theorem zDW.le(h:zDW k R C A):k<=R:=zIN (zXA (n:=R) (C:=C) A) h
structure qAf(R C:Nat)(A:Nat->Nat->Int):Prop where
 sat:∀x,zZM R C A x->qG R C A x
 full:zDW R R C A
theorem zBq.cut{cap:Nat}(h:zBq w (slq b n cap) M){f:Nat}(hf:f<=t)(ht:t<=n)(a:Option Addr)(ha:f<t->a=some ⟨b,f,none⟩)(c:Nat)(hc:t-f<=c)(hc2:c<=cap):zHA w (.slice a (t-f) c) ((M.take t).drop f):=by
 obtain⟨ao,n',cap',e,h2,h3,h4,h5⟩:=h;injection e with e1 e2 e3
 subst e2;subst e3;subst e1;refine⟨a,t-f,c,rfl,by rw[zBX,qF];omega,hc,oM,fun hn=>?_⟩;have hft:f<t:=zCT fun hle=>hn (qP (by rw[qF];omega))
 obtain⟨b',cs,k1,k2,k3⟩:=h5 (by rintro rfl;simp at hn);injection k1 with k1
 injection k1 with k1
 subst k1;refine⟨b,f,cs,ha hft,k2,fun k zs hk=>?_⟩;have hkl:=(xge.1 hk).1;rw[zBX,qF]at hkl;rw[List.getElem?_drop,List.getElem?_take_of_lt oM]at hk;exact k3 _ _ hk
theorem zXn{zs:List Int}(h:zAv w v zs)(e:∀b,jJ w b zs->w'.heap[b]?=w.heap[b]?)(x:zBw w w'):zAv w' v zs:=by
 obtain⟨ao,n,cap,h1,h2,h3,h4,h5⟩:=h;exact⟨ao,n,cap,h1,h2,h3,h4,fun hn=>(h5 hn).elim fun b h=>⟨b,h.1,h.2.old (e b h.2) x⟩⟩
theorem zHA.offw{g:Nat}{T:TypeId}(h:zHA w v M)(hg:Blk w g T cs)(h1:T≠tR)(h2:T≠tI)(ho:∀b,b≠g->w'.heap[b]?=w.heap[b]?)(hx:zBw w w'):zHA w' v M:=by
 obtain⟨ao,n,cap,e1,e2,e3,e4,e5⟩:=h;refine⟨ao,n,cap,e1,e2,e3,e4,fun hn=>?_⟩;obtain⟨b,o,cs',q1,q2,q3⟩:=e5 hn;have hne:∀{c:Nat} {U:TypeId} {ds:Array Value},w.heap[c]?=some (.cells ds U (0,0))->T≠U->c≠g:=by
  intro c U ds hc hT hh;subst hh;have hg':w.heap[c]?=some (.cells cs T (0,0)):=hg;rw[hg']at hc;injection hc with hc
  injection hc with _ ht
  exact hT ht
 refine⟨b,o,cs',q1,(ho b (hne q2 h1)).trans q2,fun k zs hk=>?_⟩;obtain⟨rv,r1,r2⟩:=q3 k zs hk;exact⟨rv,r1,zXn r2 (fun b' hr=>by obtain⟨c2,s2,-⟩:=hr;exact ho b' (hne s2 h2)) hx⟩
theorem zIw.keep3{R C:Int}(h:zIw w v R C M)(hb:Blk w b 32 cs)(x y z:Value):zIw (((w.setCell ⟨b,0,none⟩ x).setCell ⟨b,1,none⟩ y).setCell ⟨b,2,none⟩ z) v R C M:=by
 obtain⟨A,rfl,h⟩:=h;exact⟨A,rfl,h.offw hb dE dE (fun k hk=>zAf _ _ k _ _ _ hk) (hb.lext3 dE _ _ _)⟩
theorem zHA.nil(w:World)(a:Option Addr):zHA w (.slice a 0 0) []:=⟨a,0,0,rfl,rfl,xgf _,oM,fun h=>absurd rfl h⟩
theorem zWs(v:Value)(R C f t:Nat)(M:List (List Int))(w:World)(h:zAC w v R C M)(hF:zBU R C M)(hf:f<=t)(ht:t<=R)(hR:R<=1000000):
  CPq 103 #[v,niq f,niq t] w fun e w'=>∃v',e= .returned v'/\zIw w' v' ((t-f:Nat):Int) C ((M.take t).drop f)/\BWq w w':=by
 obtain⟨A,rfl,h⟩:=h;obtain⟨ao,n,cap,rfl,e2,e3,e4,h5⟩:=id h;obtain rfl:R=n:=by rw[<-e2,hF.1]
 have htc:t<=cap:=oM;have hsub:(t:Int)-(f:Int)=((t-f:Nat):Int):=oM;have hw:IntKind.i64.wrap ((t-f:Nat):Int)=((t-f:Nat):Int):=qU _ oM;rcases qN R with h0|h0
 ·subst h0
  obtain rfl:f=0:=oM;obtain rfl:t=0:=oM;obtain rfl:M= []:=qE e2;clear hF e2 h5 h hsub;go_enter Tryz.func103,Tryz.ntmps103;go_upto_region 1 with(fail)
  refine zD ?_;intro W0 hW0;obtain⟨hB0,bx,br,hs0⟩:=zAj hW0;have c1:=bx.three;have lbx:=bx.lt;clear hW0;refine yP 12 [] ?_;refine sRd ?_;refine sRf ?_;intro w2 hbw2;have br:=br.below hbw2;have hB2:=nx hB0 hbw2;have r1:=br.three;clear c1;go_wp2;refine zAZ (r:=w.heap.size+1) rfl rfl rfl (br.put3 _ _ _) ⟨_,rfl,⟨_,rfl,zHA.nil _ _⟩,yJ (yJ (yJ hB2 oM 0 _) oM 1 _) oM 2 _⟩
 obtain⟨b,rfl⟩:∃b,ao=some ⟨b,0,none⟩:=by
  obtain⟨b,_,e,-⟩:=h5 (by rintro rfl;simp at e2;omega);exact⟨b,e⟩
 clear hF e2 h5;obtain⟨q,hq⟩:∃q:Option Addr,(if t=f then some ⟨b,0,none⟩else some ⟨b,f,none⟩)=q:=⟨_,rfl⟩;have hq2:f<t->q=some ⟨b,f,none⟩:=fun hlt=>by rw[<-hq,if_neg oM]
 have HQ2:=xgv hq2;clear hq2;go_enter Tryz.func103,Tryz.ntmps103;go_upto_region 1 with(fail)
 refine zD ?_;intro W0 hW0;obtain⟨hB0,bx,br,hs0⟩:=zAj hW0;have c1:=bx.three;have lbx:=bx.lt;clear hW0;refine yP 12 [] ?_;refine sRd ?_;refine sRf ?_;intro w2 hbw2;have br:=br.below hbw2;have hB2:=nx hB0 hbw2;have r1:=br.three;clear c1;go_wp2;have hr2:=(h.cut hf ht q HQ2.out (t-f) (xgf _) oM).below hB2;refine zAZ (r:=w.heap.size+1) rfl rfl rfl (br.put3 _ _ _) ⟨_,rfl,zIw.keep3 ⟨_,rfl,hr2⟩ br _ _ _,yJ (yJ (yJ hB2 oM 0 _) oM 1 _) oM 2 _⟩
theorem zMs(v:Value)(zs:List Int)(w:World)(h:zAv w v zs):
  CPq 133 #[v] w fun e w'=>e= .returned (.bool (decide (∀z∈zs,z=0)))/\BWq w w':=by
 obtain⟨ao,n,cap,rfl,e2,e3,e4,-⟩:=id h;have HX:=xgw e2;clear e2;obtain⟨ans,hans⟩:∃ans,decide (∀z∈zs,z=0)=ans:=⟨_,rfl⟩;rw[hans];have HA:=xgw hans;clear hans;go_enter Tryz.func133,Tryz.ntmps133;go_wp2;go_loopw [7] (fun iv wr=>∃k:Nat,k<=n/\iv=niq k/\BWq w wr/\Hid (∀z∈zs.take k,z=0)) (fun iv _=>n-(intOf iv).toNat)
 case atStart=>exact⟨0,oM,rfl,zA _ _,xgw sI⟩
 obtain⟨k,hk,rfl,hb,hz⟩:=hrel;by_cases hlt:k<n
 ·obtain⟨b,z,s,a,l,c,rfl,hbl,hzk,q1,q2,hzv⟩:=(h.below hb).cell (k:=k) (by rw[HX.out];exact hlt)
  have HZ:=xgw hzk;clear hzk;go_upto_region 4 with(fail)
  refine zD ?_;intro W1 hW1;obtain⟨hB1,T4,hs1⟩:=qL hW1;have d1:=T4.two;clear q1 q2 hW1;go_wp2_with fail
  refine(zAi _ z W1 (hzv.ext (lx hB1)).weak).mono ?_;rintro e w2 ⟨rfl,hb2⟩;have hb':=nx (nx hb hB1) hb2;clear d1;by_cases h0:z=0
  ·have hc:(zAt z 0 !=0)=false:=by rw[h0];decide
   obtain⟨q,hq⟩:∃q,zAt z 0=q:=⟨_,rfl⟩;rw[hq]at hc ⊢
   clear hq;go_wp2;go_roundw
   case rel=>
    refine⟨k+1,oM,by simp,hb',xgw ?_⟩;rw[jD,HZ.out];intro y hy;rcases List.mem_append.1 hy with h1|h1
    exact hz.out y h1;simp at h1;rw[h1,h0]
   case measure=>exact meq
  have hc:(zAt z 0 !=0)=true:=by
   rw[bne_iff_ne];unfold zAt;split<;>(try split)<;>omega
  obtain⟨q,hq⟩:∃q,zAt z 0=q:=⟨_,rfl⟩;rw[hq]at hc ⊢
  clear hq;go_wp2;go_ret;refine⟨?_,hb'⟩;rw[<-HA.out,decide_eq_false (fun hh=>h0 (hh z (xgd HZ.out)))];rfl
 obtain rfl:k=n:=oM;go_wp2;go_ret;refine⟨?_,hb⟩;have:=hz.out;rw[<-HX.out,jA]at this;rw[<-HA.out,decide_eq_true this];rfl
theorem zSh(v:Value)(R C r:Nat)(κ:Nat->Nat)(M:List (List Int))(w:World)(h:zAC w v R C M)(hF:zBU R C M)(hH:Hnf C R r κ (ent M)):
  CPq 104 #[v] w fun e w'=>e= .returned (niq r)/\BWq w w':=by
 obtain⟨A,rfl,h⟩:=h;obtain⟨ao,n,cap,rfl,e2,e3,e4,-⟩:=id h;obtain rfl:R=n:=by rw[<-e2,hF.1]
 have HX:=xgw e2;have HF:=xgv hF;have hle:=hH.le;have HZE:jZ (∀k,k<R->decide (∀z∈qZ C (ent M k),z=0)=decide (r<=k)):=⟨fun k hk=>by
  refine decide_eq_decide.2 ⟨fun hz=>?_,fun hr z hz=>?_⟩
  ·refine zAD fun hlt=>?_
   have hp:=hH.ech.pos k hlt;have:=hz (ent M k (κ k)) (List.mem_map.2 ⟨κ k,yL.2 (hH.ech.lt k hlt),rfl⟩);omega
  obtain⟨t,ht,rfl⟩:=List.mem_map.1 hz;exact hH.zero k hr hk t (yL.1 ht)⟩
 clear e2 hF hH;go_enter Tryz.func104,Tryz.ntmps104;go_upto_region 1 with(fail)
 refine zD ?_;intro W0 hW0;obtain⟨hB0,bx,hs0⟩:=qL hW0;clear hW0;go_wp2;go_loopw [3] (fun iv wr=>∃i:Nat,i<=r/\iv=niq i/\BWq w wr/\Blk wr w.heap.size 32 #[niq R,niq C,.slice ao R cap]) (fun iv _=>R-(intOf iv).toNat)
 case atStart=>exact⟨0,oM,rfl,hB0,bx⟩
 clear bx hB0;obtain⟨i,hi,rfl,hb,bx⟩:=hrel;have c1:=bx.three;by_cases hlt:i<R
 ·obtain⟨b,ra,rn,rc,zs,rfl,hbl,hz,p1,hrv⟩:=(h.below hb).row (k:=i) (by rw[HX.out];exact hlt)
  obtain rfl:=HF.out.row_eq hz;go_wp2_with fail
  refine(zMs _ (qZ C (ent M i)) wr hrv).mono ?_;rintro e w7 ⟨rfl,hb7⟩;rw[HZE.out i hlt];have hb8:=nx hb hb7;have bx:=bx.below hb7;clear c1 p1 hz hrv;by_cases hir:i<r
  ·rw[decide_eq_false (by omega:¬ r<=i)]
   go_wp2;go_roundw
   case rel=>exact⟨i+1,oM,by simp,hb8,bx⟩
   case measure=>exact meq
  obtain rfl:i=r:=oM;rw[decide_eq_true (xgf i)];go_wp2;go_ret;exact⟨rfl,hb8⟩
 obtain rfl:i=r:=oM;go_wp2;go_ret;exact⟨rfl,hb⟩
theorem zZb(v1 v2:Value)(R m C:Nat)(M1 M2:List (List Int))(w:World)(h1:zAC w v1 R m M1)(h2:zAC w v2 m C M2)(hF1:zBU R m M1)(hF2:zBU m C M2)(hR:R<=1000000)(hm:m<=1000000)(hC:C<=1000000)(hS:zFp M1 M2 R m C):
  CPq 65 #[v1,v2] w fun e w'=>∃o c k,e= .returned (.tuple #[.agg #[niq R,niq C,.slice o c k],niq 0])/\zAC w' (.agg #[niq R,niq C,.slice o c k]) R C (genM R C (zFL M1 M2 m))/\BWq w w':=by
 refine(zVC v1 v2 R m C M1 M2 w h1 h2 hF1 hF2 hR hm hC hS).mono ?_;rintro e w' ⟨v,bs,rfl,h,hb⟩;obtain⟨A,rfl,ao,n,cap,rfl,h3⟩:=h.mat.1;exact⟨_,_,_,rfl,h.mat.1,hb⟩
theorem Blk.nine{g:Nat}{t:TypeId}{c0 c1 c2 c3 c4 c5 c6 c7 c8:Value}(h:Blk w g t #[c0,c1,c2,c3,c4,c5,c6,c7,c8]):
  w.cell? ⟨g,0,none⟩=some c0/\w.cell? ⟨g,1,none⟩=some c1/\w.cell? ⟨g,2,none⟩=some c2/\w.cell? ⟨g,3,none⟩=some c3/\w.cell? ⟨g,4,none⟩=some c4/\w.cell? ⟨g,5,none⟩=some c5/\w.cell? ⟨g,6,none⟩=some c6/\w.cell? ⟨g,7,none⟩=some c7/\w.cell? ⟨g,8,none⟩=some c8:=
 ⟨h.cell 0,h.cell 1,h.cell 2,h.cell 3,h.cell 4,h.cell 5,h.cell 6,h.cell 7,h.cell 8⟩
structure qAE(w:World)(f:Value)(hr hc:Int)(H:List (List Int))(ur uc:Int)(U:List (List Int))(vr vc:Int)(V:List (List Int)):Prop where
 ex:∃h u v,f= .agg #[niq hr,niq hc,h,niq ur,niq uc,u,niq vr,niq vc,v]/\zBq w h H/\zBq w u U/\zBq w v V
structure zZ9(R C:Nat)(A:List (List Int))(hr hc:Int)(H:List (List Int))(ur uc:Int)(U:List (List Int))(vr vc:Int)(V:List (List Int)):Prop where
 is:zRf hr hc H
 er:hr=R
 ec:hc=C
 u:ur=R/\uc=R/\zBS ur uc U
 v:vr=R/\vc=R/\zBS vr vc V
 mul:genM R C (zFL U A R)=H
 inv:genM R R (zFL U V R)=genM R R idf
abbrev tWk:TypeId:=155
def upR(F G:Nat->Nat->Int)(i c:Nat):Nat->Nat->Int:=fun a b=>if a=i/\b<c then G a b else F a b
def upC(F G:Nat->Nat->Int)(j r:Nat):Nat->Nat->Int:=fun a b=>if b=j/\a<r then G a b else F a b
def qAo(F:Nat->Nat->Int)(i c:Nat)(z:Int):Nat->Nat->Int:=fun a b=>if a=i/\b=c then z else F a b
section
variable {w:World} {A:Value} {g n cap R C:Nat} {bs:List Nat} {F:Nat->Nat->Int}
end
structure K9(w:World)(bw:Nat)(AM AU AV:Value)(R C:Nat)(bm bu bv:List Nat)(S T V:Nat->Nat->Int):Prop where
 blk:Blk w bw tWk #[niq R,niq C,AM,niq R,niq R,AU,niq R,niq R,AV]
 m:Wri w AM R C bm S
 u:Wri w AU R R bu T
 v:Wri w AV R R bv V
 mu:Ap AM bm AU bu
 mv:Ap AM bm AV bv
 uv:Ap AU bu AV bv
section
variable {w w':World} {bw:Nat} {AM AU AV:Value} {R C:Nat} {bm bu bv:List Nat} {S T V:Nat->Nat->Int}
def Z3(AM AU AV:Value)(bm bu bv:List Nat)(b:Nat):Prop:=Zn AM bm b∨Zn AU bu b∨Zn AV bv b
end
def KW(Z:Nat->Prop)(w:World)(bw R C:Nat)(x:Bst):Prop:=∃AM AU AV bm bu bv,K9 w bw AM AU AV R C bm bu bv x.s x.t (fun a b=>x.i b a)/\∀b,Z3 AM AU AV bm bu bv b->Z b


section
variable {w:World} {bw gm gu cm cu:Nat} {AM AU AV:Value} {R C:Nat} {bm bu bv:List Nat} {S T V:Nat->Nat->Int}
end
def qAq(F:Nat->Nat->Int)(i j c:Nat):Nat->Nat->Int:=fun a b=>if a<c then F a (swp i j b)else F a b
structure zZx(n0 R C:Nat)(S T V:Nat->Nat->Int)(w:World)(v:Value):Prop where
 ex:∃so sc uo uc vo vc bs bu bv,v= .agg #[niq R,niq C,.slice so R sc,niq R,niq R,.slice uo R uc,niq R,niq R,.slice vo R vc]∧
  Wri w (.slice so R sc) R C bs S/\Wri w (.slice uo R uc) R R bu T/\Wri w (.slice vo R vc) R R bv V/\(∀b,Z3 (.slice so R sc) (.slice uo R uc) (.slice vo R vc) bs bu bv b->n0<=b)∧
  Ap (.slice so R sc) bs (.slice uo R uc) bu/\Ap (.slice so R sc) bs (.slice vo R vc) bv/\Ap (.slice uo R uc) bu (.slice vo R vc) bv
structure qAb(n0 R C:Nat)(S T V:Nat->Nat->Int)(w:World)(v:Value):Prop where
 ex:∃bw AM AU AV bm bu bv,v=ptq bw 0/\n0<=bw/\K9 w bw AM AU AV R C bm bu bv S T V/\∀b,Z3 AM AU AV bm bu bv b->n0<=b
theorem zTI(v:Value)(zs:List Int)(w:World)(h:zAv w v zs):
  CPq 131 #[v] w fun e w'=>e= .returned (niq (zCL 0 zs))/\BWq w w':=by
 obtain⟨ao,n,cap,rfl,h2,h3,h4,h5⟩:=id h;have HL:=xgw h2;clear h2 h5;go_enter Tryz.func131,Tryz.ntmps131;go_wp2;go_loopw [3] (fun i wr=>∃k:Nat,k<=n/\i=niq k/\BWq w wr/\Hid (zCL 0 zs=zCL k (zs.drop k))) (fun i _=>n-(intOf i).toNat)
 case atStart=>exact⟨0,oM,rfl,zA _ _,by rw[xgk];exact xgw rfl⟩
 obtain⟨k,hk,rfl,hb,hgo⟩:=hrel;by_cases hlt:k<n
 ·obtain⟨b,z,s,a,l,c,rfl,hbl,hz,c1,c2,hv⟩:=(h.below hb).cell (k:=k) (by rw[HL.out];exact hlt)
  have HZ:=xgw hz;clear hz;go_wp2_with fail
  refine(zFF _ z wr hv).mono ?_;rintro e w7 ⟨rfl,hb7⟩;have hb9:=nx hb hb7;by_cases hz0:z=0
  ·rw[zBd hz0]
   go_wp2;go_roundw
   case rel=>
    refine⟨k+1,oM,by simp,hb9,xgw ?_⟩;rw[hgo.out,zDe HZ.out];conv=>lhs;unfold zCL
    rw[if_neg (by simp[hz0])]
   case measure=>exact meq
  have hc:=zCr hz0;obtain⟨k0,hk0⟩:∃k0,zAt z 0=k0:=⟨_,rfl⟩;rw[hk0]at hc ⊢
  have hc2:(k0 !=0)=true:=by simpa using hc
  go_wp2;go_ret;refine⟨?_,hb9⟩;rw[hgo.out,zDe HZ.out];conv=>rhs;unfold zCL
  rw[if_pos hz0];rfl
 obtain rfl:k=n:=oM;go_wp2;go_ret;refine⟨?_,hb⟩;rw[hgo.out,qP (zA3 HL.out)];rfl
structure zFm(C:Nat)(F:Nat->Nat->Int)(i:Nat)(last:Int):Prop where
 ok:∀k,k<i->zFx C F k
 lst:∀c:Nat,c<C->(last<c↔∀k,k<i->0<=lead C F k/\lead C F k<c)
theorem zFm.start(C:Nat)(F:Nat->Nat->Int):zFm C F 0 (-1):=
 ⟨fun k hk=>oM,fun c hc=>⟨fun _ k hk=>oM,fun _=>oM⟩⟩
theorem zFm.zero(h:zFm C F i last)(hl:lead C F i<0):zFm C F (i+1) C:=
 ⟨fun k hk=>by
  by_cases e:k=i
  ·rw[e];exact .inl hl
  exact h.ok k oM,fun c hc=>⟨fun h=>oM,fun h=>by have:=h i oM;omega⟩⟩
theorem zFm.row{c:Nat}(h:zFm C F i last)(hl:lead C F i=(c:Int)):
  zFx C F i↔last<c/\0<F i c/\∀k,k<i->0<=F k c/\F k c<F i c:=by
 have hz:=zDi hl;constructor
 ·rintro(h1|⟨c',h1,h2,h3,h4⟩)
  ·omega
  obtain rfl:c'=c:=oM;exact⟨(h.lst c' hz.1).2 h2,h3,h4⟩
 rintro⟨h2,h3,h4⟩;exact .inr ⟨c,hl,(h.lst c hz.1).1 h2,h3,h4⟩
theorem zFm.step{c:Nat}(h:zFm C F i last)(hl:lead C F i=(c:Int))(hr:zFx C F i):zFm C F (i+1) c:=by
 refine⟨fun k hk=>?_,fun d hd=>⟨fun hlt k hk=>?_,fun hk=>by have:=(hk i oM).2;omega⟩⟩
 ·by_cases e:k=i
  ·rw[e];exact hr
  exact h.ok k oM
 by_cases e:k=i
 ·rw[e];omega
 rcases hr with h1|⟨c',h1,h2,-⟩
 omega;have:=h2 k oM;omega
theorem zTT(v:Value)(R C:Int)(M:List (List Int))(w:World)(h:zAC w v R C M)(hS:∀r∈M,∀z∈r,Sm z):
  CPq 83 #[v] w (zRh (zRf R C M) w):=by
 have h0:=h;obtain⟨A,rfl,h⟩:=h;obtain⟨ao,n,cap,rfl,e2,e3,e4,-⟩:=id h;have HX:=xgw e2;have HS:=xgv hS;clear e2 hS;by_cases hv:zBS R C M
 ·have hdv:=decide_eq_true hv
  have hv':=hv;obtain⟨v1,v2,v3,v4⟩:=hv;obtain⟨C',rfl⟩:=jQ v2;obtain rfl:R=(n:Int):=by rw[<-v3,HX.out]
  have hF:zBU n C' M:=⟨HX.out,fun r hr=>by have:=v4 r hr;omega⟩;have HF:=xgv hF;have hiff:Hid (zRf n C' M↔∀i,i<n->zFx C' (ent M) i):=xgw ⟨fun h=>by have:=h.2;rw[HX.out,zBi]at this;exact this,fun h=>⟨hv',by rw[HX.out,zBi];exact h⟩⟩;clear v1 v2 v3 v4 hv' hF;go_enter Tryz.func83,Tryz.ntmps83;go_upto_region 1 with(fail)
  refine zD ?_;intro W0 hW0;obtain⟨hB0,bx1,hs0⟩:=qL hW0;have c1:=bx1.three;clear hW0;go_wp2_with fail
  refine(zJr _ n C' M W0 (h0.below hB0)).mono ?_;rintro e w1 ⟨rfl,hb1⟩;rw[hdv];have bx1:=bx1.below hb1;have hB1:=nx hB0 hb1;clear c1 hdv;have c1:=bx1.three;go_wp2;go_loopw [4,5] (fun lv iv wr=>∃(i:Nat) (last:Int),i<=n/\lv= .int .i64 last/\iv= .int .i64 i/\BWq w wr/\Blk wr w.heap.size 32 #[.int .i64 n,.int .i64 C',.slice ao n cap]/\jZ (zFm C' (ent M) i last)) (fun _ iv _=>n-(intOf iv).toNat)
  case atStart=>exact⟨0,-1,oM,rfl,rfl,hB1,bx1,⟨zFm.start _ _⟩⟩
  clear bx1 c1;obtain⟨i,last,hi,rfl,rfl,hb,bx1,hinv⟩:=hrel;have c1:=bx1.three;by_cases hlt:i<n
  ·obtain⟨b,ra,rn,rc,zs,rfl,hbl,hz,p1,hrv⟩:=(h.below hb).row (k:=i) (by rw[HX.out];exact hlt)
   obtain rfl:=HF.out.row_eq hz;have hrn:=hrv.len.1;rw[qA]at hrn;subst hrn;have HZ:=xgw hz;clear hz;go_wp2_with fail
   refine(zTI _ (qZ C' (ent M i)) wr hrv).mono ?_;rintro e w7 ⟨rfl,hb7⟩;obtain⟨L,hL⟩:∃L,zCL 0 (qZ C' (ent M i))=L:=⟨_,rfl⟩;rw[hL];have HL:=xgw (show lead C' (ent M) i=L from hL);have hb8:=nx hb hb7;have bx1:=bx1.below hb7;have hrv:=hrv.below hb7;have hrw:=h.below hb8;have p1:=(hb7.cell (p:=⟨b,i,none⟩) hbl).trans p1;have hbl:=zJ hbl hb7.size;clear hL c1;have c1:=bx1.three;by_cases hneg:L<0
   ·have hd:decide (L<0)=true:=decide_eq_true hneg
    have HN:=xgw hneg;clear hneg;go_wp2;go_roundw
    case rel=>
     exact⟨i+1,C',oM,rfl,by simp,hb8,bx1,⟨hinv.out.zero (by rw[HL.out];exact HN.out)⟩⟩
    case measure=>exact meq
   obtain⟨c,rfl⟩:=jQ (Int.not_lt.1 hneg);have hcC:c<C':=(zDi HL.out).1;have HR:=xgw (hinv.out.row HL.out);have hno:¬ zFx C' (ent M) i->¬ zRf n C' M:=fun hr h=>hr (hiff.out.1 h i hlt)
   have HNO:=xgv hno;clear hno hneg;by_cases hle:(c:Int)<=last
   ·have HLE:=xgw hle
    have hd:decide ((c:Int)<=last)=true:=decide_eq_true hle;clear hle;go_wp2;go_ret;exact zRh.no (HNO.out (fun hr=>by have h1:=(HR.out.1 hr).1;have h2:=HLE.out;omega)) hb8
   have HLE:=xgw hle;have hd:decide ((c:Int)<=last)=false:=decide_eq_false hle;clear hle;obtain⟨bi,z,s,a,l,kz,rfl,hbi,hzk,q1,q2,hzv⟩:=hrv.cell (k:=c) (by rw[qA];exact hcC);have hze:z=ent M i c:=by
    rw[yE hcC]at hzk;exact(zW hzk).symm
   have HZE:=xgw hze;have hzS:jZ (Sm z):=⟨HS.out _ (xgd HZ.out) z (xgd hzk)⟩;clear hzk hze;go_wp2_with fail
   refine(zFF _ z w7 hzv).mono ?_;rintro e w9 ⟨rfl,hb9⟩;have bx1:=bx1.below hb9;have p1:=(hb9.cell (p:=⟨b,i,none⟩) hbl).trans p1;have q1:=(hb9.cell (p:=⟨bi,c*2,none⟩) hbi).trans q1;have q2:=(hb9.cell (p:=⟨bi,c*2+1,none⟩) hbi).trans q2;have hbl:=zJ hbl hb9.size;have hbi:=zJ hbi hb9.size;have hzv:=hzv.ext (lx hb9);have hrw:=hrw.below hb9;have hb9':=nx hb8 hb9;clear c1 hrv;have c1:=bx1.three;by_cases hx:z<=0
   ·obtain⟨k0,hk0⟩:∃k0,zAt z 0=k0:=⟨_,rfl⟩
    have n1:decide (k0<=0)=true:=decide_eq_true (by
     rw[<-hk0];rcases Int.lt_or_eq_of_le hx with h|h
     rw[zBc h];decide;rw[zCf h];decide)
    rw[hk0];have HXX:=xgw hx;clear hx hk0;go_wp2;go_ret;exact zRh.no (HNO.out (fun hr=>by have h1:=(HR.out.1 hr).2.1;have h2:=HXX.out;have h3:=HZE.out;omega)) hb9'
   rw[zCK oM];have HXX:=xgw hx;clear hx;go_wp2;go_loopw [7] (fun kv wt=>∃k:Nat,k<=i/\kv= .int .i64 k/\BWq w9 wt/\Hid (∀j,j<k->0<=ent M j c/\ent M j c<z)) (fun kv _=>i-(intOf kv).toNat)
   case atStart=>exact⟨0,oM,rfl,zA _ _,xgw fun j h=>absurd h oM⟩
   rename World=>wt
   obtain⟨k,hk,rfl,hbt,hin⟩:=hrel;have bx1:=bx1.below hbt;clear c1;have c1:=bx1.three;have hbT:=nx hb9' hbt;by_cases hki:k<i
   ·have hkn:k<n:=oM
    have p1:=(hbt.cell (p:=⟨b,i,none⟩) hbl).trans p1;have q1:=(hbt.cell (p:=⟨bi,c*2,none⟩) hbi).trans q1;have q2:=(hbt.cell (p:=⟨bi,c*2+1,none⟩) hbi).trans q2;have hzv:=hzv.ext (lx hbt);obtain⟨b',rb,rbn,rbc,zs,e1,hbl',hz',p3,hrk⟩:=(hrw.below hbt).row (k:=k) (by rw[HX.out];omega);cases e1;obtain rfl:=HF.out.row_eq hz';have hrn:=hrk.len.1;rw[qA]at hrn;subst hrn;obtain⟨bk,zk,sk,ak,lk,kk,rfl,hbk,hzk,o1,o2,hkv⟩:=hrk.cell (k:=c) (by rw[qA];exact hcC);have hke:zk=ent M k c:=by
     rw[yE hcC]at hzk;exact(zW hzk).symm
    have HKE:=xgw hke;have hkS:jZ (Sm zk):=⟨HS.out _ (xgd hz') zk (xgd hzk)⟩;have hci:c<C':=hcC;clear hzk hke hz' hrk;by_cases h0:zk<0
    ·have hs:∀Q,jY Q (.agg #[.bool sk,.slice ak lk kk]) zk->CPq 48 #[.agg #[.bool sk,.slice ak lk kk]] Q fun e w'=>e= .returned (.int .i64 (-1))/\BWq Q w':=fun Q hq=>by
      have:=zFF _ zk Q hq;rwa[zBc h0]at this
     have H0:=xgw h0;clear h0;go_upto_region 16 with(fail)
     refine zBl [pcD 8 [] (fun _ v=>v= .int .i64 (-1))] ?_;refine sRd ?_;refine sRc (fun wS hI Gk hG=>?_) (fun _ hv=>?_)
     ·go_simp
      refine(hs _ (hkv.ext (lx hI.bel))).mono ?_
      (rintro e wa ⟨rfl,hba⟩;have hv:(Value.int .i64 (-1))= .int .i64 (-1):=rfl)
      exact⟨_,rfl,hG _ _ hv,hba⟩
     obtain⟨_,-,rfl⟩:=hv;refine sRd ?_;refine sRe ?_;intro w2 hbw2 _;have hbE:=nx hbT hbw2;go_wp2;go_ret;exact zRh.no (HNO.out (fun hr=>by have h1:=((HR.out.1 hr).2.2 k hki).1;have h2:=H0.out;have h3:=HKE.out;omega)) hbE
    obtain⟨k1,hk1⟩:∃k,zAt zk 0=k:=⟨_,rfl⟩;obtain⟨k2,hk2⟩:∃k,zAt zk z=k:=⟨_,rfl⟩;have hs:∀Q,jY Q (.agg #[.bool sk,.slice ak lk kk]) zk->CPq 48 #[.agg #[.bool sk,.slice ak lk kk]] Q fun e w'=>e= .returned (.int .i64 k1)/\BWq Q w':=fun Q hq=>by
     have:=zFF _ zk Q hq;rwa[hk1]at this
    have hc:∀Q,jY Q (.agg #[.bool sk,.slice ak lk kk]) zk->jY Q (.agg #[.bool s,.slice a l kz]) z->CPq 46 #[.agg #[.bool sk,.slice ak lk kk],.agg #[.bool s,.slice a l kz]] Q fun e w'=>e= .returned (.int .i64 k2)/\BWq Q w':=fun Q h1 h2=>by
     have:=zTU _ _ zk z Q h1 h2 hkS.out hzS.out;rwa[hk2]at this
    have n1:decide (k1<0)=false:=decide_eq_false (by rw[<-hk1];have:=zJN h0;omega);have n2:decide (0<=k2)=decide (z<=zk):=decide_eq_decide.2 (by
     rw[<-hk2];constructor
     ·intro h
      rcases zCo zk z with h1|h1
      rw[zBc h1]at h;omega;exact h1
     intro h;exact zDs oM)
    obtain⟨d,hd⟩:∃d,decide (0<=k2)=d:=⟨_,rfl⟩;have HD:=xgw (hd.symm.trans n2);have H0:=xgw h0;clear n2 h0 hk1 hk2;go_upto_region 16 with(fail)
    refine zBl [pcD 8 [] (fun _ v=>v= .int .i64 k1),pcD 27 [] (fun _ v=>v= .int .i64 k2)] ?_;refine sRd ?_;refine sRc (fun wS hI Gk hG=>?_) (fun _ hv=>?_)
    ·go_simp
     refine(hs _ (hkv.ext (lx hI.bel))).mono ?_
     (rintro e wa ⟨rfl,hba⟩;have hv:(Value.int .i64 k1)= .int .i64 k1:=rfl)
     exact⟨_,rfl,hG _ _ hv,hba⟩
    obtain⟨_,-,rfl⟩:=hv;refine sRd ?_;refine sRc (fun wS hI Gk hG=>?_) (fun _ hv=>?_)
    ·go_simp
     refine(hc _ (hkv.ext (lx hI.bel)) (hzv.ext (lx hI.bel))).mono ?_
     (rintro e wa ⟨rfl,hba⟩;have hv:(Value.int .i64 k2)= .int .i64 k2:=rfl)
     exact⟨_,rfl,hG _ _ hv,hba⟩
    obtain⟨_,-,rfl⟩:=hv;refine sRd ?_;refine sRe ?_;intro w2 hbw2 _ _;have hbE:=nx hbT hbw2;cases d
    ·go_wp2
     go_roundw
     case rel=>
      refine⟨k+1,oM,by simp,nx hbt hbw2,xgw fun j hj=>?_⟩;by_cases e:j=k
      ·subst e
       rw[<-HKE.out];have h1:=of_decide_eq_false HD.out.symm;have h2:=H0.out;omega
      exact hin.out j oM
     case measure=>exact meq
    go_wp2;go_ret;exact zRh.no (HNO.out (fun hr=>by have h1:=((HR.out.1 hr).2.2 k hki).2;have h2:=of_decide_eq_true HD.out.symm;have h3:=HKE.out;have h4:=HZE.out;omega)) hbE
   obtain rfl:k=i:=oM;go_wp2;go_roundw
   case rel=>
    exact⟨k+1,c,oM,rfl,by simp,hbT,bx1,⟨hinv.out.step HL.out (HR.out.2 ⟨by have:=HLE.out;omega,by have h1:=HXX.out;have h2:=HZE.out;omega,fun j hj=>by rw[<-HZE.out];exact hin.out j hj⟩)⟩⟩
   case measure=>exact meq
  obtain rfl:i=n:=oM;go_wp2;go_ret;exact zRh.yes (hiff.out.2 fun k hk=>hinv.out.ok k hk) hb
 have hdv:=decide_eq_false hv;have hno:¬ zRf R C M:=fun h=>hv h.1
 have HNO:=xgv hno;clear hv hno;go_enter Tryz.func83,Tryz.ntmps83;go_upto_region 1 with(fail)
 refine zD ?_;intro W0 hW0;obtain⟨hB0,bx1,hs0⟩:=qL hW0;have c1:=bx1.three;clear hW0;go_wp2_with fail
 refine(zJr _ R C M W0 (h0.below hB0)).mono ?_;rintro e w1 ⟨rfl,hb1⟩;rw[hdv];go_wp2;go_ret;exact zRh.no HNO.out (nx hB0 hb1)
theorem zQ0(v1 v2:Value)(R m C:Nat)(M1 M2:List (List Int))(w:World)(h1:zAC w v1 R m M1)(h2:zAC w v2 m C M2)(hF1:zBU R m M1)(hF2:zBU m C M2)(hR:R<=1000000)(hm:m<=1000000)(hC:C<=1000000)(hS:zFp M1 M2 R m C):
  CPq 50 #[v1,v2] w fun e w'=>∃v,e= .returned v/\zAC w' v R C (genM R C (zFL M1 M2 m))/\BWq w w':=by
 refine(zHs v1 v2 R m C M1 M2 w h1 h2 hF1 hF2 hR hm hC hS).mono ?_;rintro e w' ⟨v,bs,rfl,h,hb⟩;exact⟨_,rfl,h.mat.1,hb⟩
theorem zX6{z:Int}(h:z.natAbs<BD):Sm z:=zKO.bsm.sm z h
structure zZH(R C:Nat)(A H U V:List (List Int)):Prop where
 fh:zBU R C H
 fu:zBU R R U
 fv:zBU R R V
 chk:zZ9 R C A R C H R R U R R V
 lat:∃r c G,zJI R C r c (ent A) G/\H=genM R C G
 sh:∀r∈H,∀z∈r,Sm z
 m1:zFp U A R R C
 m2:zFp U V R R R
theorem zUr{P:Int->Prop}(h:∀a,a<R->∀b,b<C->P (F a b)):∀r∈genM R C F,∀z∈r,P z:=by
 intro r hr z hz;unfold genM at hr;obtain⟨i,hi,rfl⟩:=List.mem_map.1 hr;obtain⟨j,hj,rfl⟩:=List.mem_map.1 hz;exact h i (yL.1 hi) j (yL.1 hj)
instance (C:Nat) (F:Nat->Nat->Int) (i:Nat):Decidable (zFx C F i):=
 decidable_of_iff (lead C F i<0∨(¬ lead C F i<0/\(∀k,k<i->0<=lead C F k/\lead C F k<lead C F i)/\0<F i (lead C F i).toNat/\∀k,k<i->0<=F k (lead C F i).toNat/\F k (lead C F i).toNat<F i (lead C F i).toNat)) (by
  unfold zFx
  constructor
  ·rintro(h|⟨h1,h2,h3⟩)
   ·exact .inl h
   exact .inr ⟨(lead C F i).toNat,oM,fun k hk=>by have:=h2 k hk;omega,h3⟩
  rintro(h|⟨c,h1,h2,h3⟩)
  exact .inl h
  refine .inr ⟨oM,fun k hk=>by rw[h1];exact h2 k hk,?_⟩
  rw[h1,zBi]
  exact h3)
instance (R C:Int) (M:List (List Int)):Decidable (zRf R C M):=inferInstanceAs (Decidable (_/\_))
def qAH(R C:Nat)(A W X Y:List (List Int)):Prop:=zRf R C W/\(∀a,a<R->∀b,b<C->ent A a b=zT R fun t=>ent X a t*ent W t b)/\∀a,a<R->∀b,b<C->ent W a b=zT R fun t=>ent Y a t*ent A t b
instance (R C:Nat) (A W X Y:List (List Int)):Decidable (qAH R C A W X Y):=inferInstanceAs (Decidable (_/\_))
theorem zSm(h:zU9 (M0+1) M=true)(hF:zBU R C M):leM M0 R C (ent M):=fun a ha b hb=>by
 have hl:a<M.length:=by rw[hF.1];exact ha
 have hr:=hF.2 M[a] (zAd _);have hb':b<M[a].length:=oM;have e:ent M a b=M[a][b]:=zEJ (xga hl) (xga hb');have:=of_decide_eq_true (jP.1 (jP.1 h M[a] (zAd _)) M[a][b] (zAd _));rw[e];omega
/- The calls of sanity. -/
section
variable {Z:Nat->Prop} {w:World} {bw R C:Nat} {x:Bst}
end
structure MvI(R C M0 i:Nat)(x0 x:Bst):Prop where
 ops:∃l,jS R l/\x=zCO l x0
 bd:leB (M0*4^i) R C R x
section
variable {R C M0 i:Nat} {x0 x:Bst}
end
theorem zAC.keep3{R C:Int}(h:zAC w v R C M)(hb:Blk w b 32 cs)(x y z:Value):zAC (((w.setCell ⟨b,0,none⟩ x).setCell ⟨b,1,none⟩ y).setCell ⟨b,2,none⟩ z) v R C M:=by
 obtain⟨A,rfl,h⟩:=h;exact⟨A,rfl,h.off hb dE dE (fun k hk=>zAf _ _ k _ _ _ hk) (hb.lext3 dE _ _ _)⟩

def qAg(q r:List Int):World->Value->Prop:=fun w v=>∃qv rv,v= .tuple #[qv,rv,niq 0]/\zAv w qv q/\zAv w rv r
def qAh(xs:List Int):World->Value->Prop:=fun w v=>∃b rv,v=ptq b 0/\b<w.heap.size/\w.cell? ⟨b,0,none⟩=some rv/\zAv w rv xs
def qAI:World->Value->Prop:=fun w v=>∃H U V,zNd w v 0 3 H U V/\zZH 0 3 [] H U V
theorem nxd{W W':World}{o:Obj}(h:Below (W.alloc o).heap.size (W.alloc o) W'):BWq W W':=nxa (zA _ _) h
theorem zKY(a b c:Value)(W:World):(Instr.field 32 (.agg #[a,b,c]) 2).run Tryz.prog W= .ok c W:=by kernel_rfl

theorem zPF(hM:2*M0<=2^e)(hk:e*2^k<=32*zUN):gk k M0<BD:=by
 rw[zUS];have h2:=zWF k M0;have h3:(2*M0)^(2^k)<=(2^e)^(2^k):=yV hM _;rw[<-jO]at h3;have h4:=zGe hk;have h5:0<2^(e*2^k):=qR oM;omega
theorem zIQ(F:Nat->Nat->Int):(genM R C F).take R=genM R C F:=jK (by simp[genM])
theorem zNd.agg3{f:Value}{H U V:List (List Int)}(h:zNd w f R C H U V):∃o1 n1 k1 o2 n2 k2 o3 n3 k3,f= .agg #[niq R,niq C,.slice o1 n1 k1,niq R,niq R,.slice o2 n2 k2,niq R,niq R,.slice o3 n3 k3]∧
  zAC w (.agg #[niq R,niq C,.slice o1 n1 k1]) R C H/\zAC w (.agg #[niq R,niq R,.slice o2 n2 k2]) R R U/\zAC w (.agg #[niq R,niq R,.slice o3 n3 k3]) R R V:=by
 obtain⟨a,b,c,rfl,h1,h2,h3⟩:=h.ex;obtain⟨o1,n1,k1,rfl,-⟩:=id h1;obtain⟨o2,n2,k2,rfl,-⟩:=id h2;obtain⟨o3,n3,k3,rfl,-⟩:=id h3;exact⟨_,_,_,_,_,_,_,_,_,rfl,⟨_,rfl,h1⟩,⟨_,rfl,h2⟩,⟨_,rfl,h3⟩⟩
theorem zJT(F:Nat->Nat->Int):(genM R C F).drop r=genM (R-r) C (zNo r F):=by
 refine qT (by simp[genM]) fun i h1 h2=>?_
 simp[genM,qZ,zNo]
theorem zN9(R C:Int)(M:List (List Int)):zAK (fun w v=>zIw w v R C M):=fun _ _ _ e h=>h.below e
theorem zYf(v:Value)(R C r:Nat)(κ:Nat->Nat)(M:List (List Int))(w:World)(h:zAC w v R C M)(hF:zBU R C M)(hH:Hnf C R r κ (ent M)):
  CPq 104 #[v] w fun e w'=>∃v,e= .returned v/\v=niq r/\BWq w w':=
 (zSh v R C r κ M w h hF hH).mono fun _ _ h=>⟨_,h.1,rfl,h.2⟩
theorem Hnf.genM(h:Hnf C R r κ H):Hnf C R r κ (ent (Go.Proofs.YtkidaebmhlijlaaGreat.genM R C H)):=by
 obtain⟨q1,q2,q3,q4⟩:=h;have e:∀a,a<R->∀b,b<C->ent (Go.Proofs.YtkidaebmhlijlaaGreat.genM R C H) a b=H a b:=fun a ha b hb=>yR ha hb
 exact⟨q1,⟨q2.lt,fun k hk=>by rw[e k oM _ (q2.lt k hk)];exact q2.pos k hk,fun k hk t ht=>by rw[e k oM t (by have:=q2.lt k hk;omega)];exact q2.zero k hk t ht,q2.inc⟩,
  fun i j h1 h2 h3=>by rw[e i oM _ (q2.lt j h2),e j oM _ (q2.lt j h2)];exact q3 i j h1 h2 h3,fun a h1 h2 t h3=>by rw[e a h2 t h3];exact q4 a h1 h2 t h3⟩
def zIq(R C:Nat)(A:Nat->Nat->Int)(m:Nat)(G:Nat->Nat->Int):Prop:=HB R m G (zNe R C A)/\∃r c H U V,zE4 R C r c A H U V
theorem zIq.of{c':Nat->Nat}{V H' U' V':Nat->Nat->Int}(h:zE4 R C r c A H U V)(hM:M=genM (R-r) R (zNo r U))(h':zE4 (R-r) R r' c' (ent M) H' U' V'):zIq R C A r' H':=by
 refine⟨h'.lat.hb.of fun x=>?_,r,c,H,U,V,h⟩;rw[hM,<-h.ker x];exact qG.congr (fun a ha b hb=>yR ha hb) x
theorem zIq.rows(h:zIq R C A m G):m<=R:=by
 obtain⟨hb,r,c,H,U,V,hf⟩:=h;have:=zHc hf hb;omega
def kb(h:Nat):Nat:=24*(8*(120*h^4))^4
def zP2(R C:Nat)(A:Nat->Nat->Int)(w:World)(v:Value):Prop:=∃m G,zIq R C A m G/\zAC w v m R (genM m R G)
theorem zN8(R C:Nat)(A:Nat->Nat->Int):zAK (zP2 R C A):=fun _ _ _ e ⟨m,G,h1,h2⟩=>⟨m,G,h1,h2.below e⟩
theorem zXa(R C:Nat)(A:Nat->Nat->Int):∃q,zDW q R C A/\∀k,zDW k R C A->k<=q:=by
 have h0:zDW 0 R C A:=⟨fun a=>a,fun a=>a,fun a ha=>oM,fun a ha=>oM,show(1:Int)≠0 by decide⟩;have h:∀n,(∀k,zDW k R C A->k<=n)->∃q,zDW q R C A/\∀k,zDW k R C A->k<=q:=fun n=>by
  induction n with
  |zero=>exact fun h=>⟨0,h0,h⟩
  | succ n ih=>
   intro h;by_cases hm:zDW (n+1) R C A
   ·exact⟨n+1,hm,h⟩
   exact ih fun k hk=>by
    have:=h k hk;rcases zG k (n+1)with h1|h1
    omega;obtain rfl:k=n+1:=oM;exact absurd hk hm
 exact h R fun k hk=>hk.tr.tr.le
theorem zWV(h:∀k,zDW k R C A->k<=q):RkB q R C ⟨A,idf,idf⟩:=fun l k ρ κ hl _ h1 _ h3=>by
 rw[zIH]at h3;have h4:zDW k k C (vw ρ (zBI l A)):=h3.min1;obtain⟨σ,τ,e1,e2,e3⟩:=h4;exact h k (zDW.of_mul (F:=zBI l A) (X:=zBI l idf) (q:=R) (fun a ha b hb=>zLt hl A a ha b) ⟨fun a=>ρ (σ a),τ,fun a ha=>h1 _ (e1 a ha),e2,e3⟩)
theorem zXG{q g1:Nat}(hM1:1<=M0)(v:Value)(M:List (List Int))(R C:Nat)(w:World)(h:zAC w v R C M)(hF:zBU R C M)(hR:R<=6)(hC:C<=1000000)(hA:leM M0 R C (ent M))
  (hq1:zDW q R C (ent M)) (hq2:∀k,zDW k R C (ent M)->k<=q) (hg:gk (g1+es (R-q)) M0<BD)
  (hfm:∀(v:Value) (w:World),zAC w v R C M->CPq 102 #[v] w fun e w'=>∃v r c H U V,e= .returned v/\zE4 R C r c (ent M) H U V/\leM (gk g1 M0) R R U/\leM (gk g1 M0) R R V/\zNd w' v R C (genM R C H) (genM R R U) (genM R R V)/\BWq w w'):
  CPq 62 #[v] w fun e w'=>∃v,e= .returned v/\zP2 R C (ent M) w' v/\BWq w w':=by
 have h0:=h;obtain⟨A,rfl,h⟩:=h;obtain⟨ao,n,cap,rfl,e2,e3,e4,-⟩:=id h;obtain rfl:R=n:=by rw[<-e2,hF.1]
 have hdv:decide (zBS R C M)=true:=decide_eq_true hF.valid;have H0:=xgv h0;have HF:=xgv hF;have HA:=xgv hA;have HFM:=xgv hfm;have HG2:jZ (gk (es (R-q)) (gk g1 M0)<BD):=⟨by rw[<-zGw];exact hg⟩;have HQ:jZ (∀r κ H U V,zE4 R C r κ (ent M) H U V->r=q):=⟨fun r κ H U V hf=>zB1 (hq2 r hf.lat.min1) (hf.lat.rank hq1)⟩;clear h0 hF e2 h hA hg hq1 hq2 hfm;go_enter Tryz.func62,Tryz.ntmps62;go_upto_region 1 with(fail)
 refine zD ?_;intro W0 hW0;obtain⟨hB0,bx,br,hs0⟩:=zAj hW0;have c1:=bx.three;clear hW0;go_wp2_with fail
 refine(zDR _ R C M W0 (H0.out.below hB0)).mono ?_;rintro e w1 ⟨rfl,hb1⟩;rw[hdv];have bx:=bx.below hb1;have br:=br.below hb1;have hB:=nx hB0 hb1;clear c1 hdv;have c1:=bx.three;go_wp2_with fail
 refine(HFM.out _ w1 (H0.out.below hB)).mono ?_;rintro e w2 ⟨fv,r,κ,H,U,V,rfl,hf,hU,-,hv,hb2⟩;obtain⟨f1,f2,f3,f4,f5,f6,f7,f8,f9,rfl,hfh,hfu,-⟩:=hv.agg3;have HFO:=xgv hf;have hrR:=hf.hnf.le;have HHN:jZ (Hnf C R r κ (ent (genM R C H))):=⟨hf.hnf.genM⟩;obtain rfl:r=q:=HQ.out _ _ _ _ _ hf;have HGG:=HG2;clear HQ;have HUL:jZ (leM (gk g1 M0) (R-r) R (ent (((genM R R U).take R).drop r))):=⟨by
  rw[zIQ,zJT];exact zNu fun a ha b hb=>hU (r+a) oM b hb⟩
 have HFI:jZ (zBU (R-r) R (((genM R R U).take R).drop r)):=⟨by rw[zIQ,zJT];exact yW _ _ _⟩;have HLP:jZ (∀r' c' H' U' V',zE4 (R-r) R r' c' (ent (((genM R R U).take R).drop r)) H' U' V'->zIq R C (ent M) r' H'):=⟨fun r' c' H' U' V' h'=>zIq.of hf (by rw[zIQ,zJT]) h'⟩;have br:=br.below hb2;have bx:=bx.below hb2;have hB:=nx hB hb2;clear c1 hf hU hv;go_upto_region 4 with(fail)
 refine zD ?_;intro W3 hW3;obtain⟨hB3,T3,hs3⟩:=qL hW3;have HFH:=xgv (hfh.below hB3);have HFU:=xgv (hfu.below hB3);have bx:=bx.below hB3;have br:=br.below hB3;have hB:=nx hB hB3;have lbr:=br.lt;clear hW3 hfh hfu;have c1:=bx.three;obtain⟨q0,q1,q2,q3,q4,q5,q6,q7,q8⟩:=T3.nine;have hl1:=zN9 ((R-r:Nat):Int) R (((genM R R U).take R).drop r);have hl2:=zN8 R C (ent M);refine yP 9 [pcD 4 [] (fun _ v=>v=niq r),pcD 7 [] (fun w' v=>zIw w' v ((R-r:Nat):Int) R (((genM R R U).take R).drop r)),pcD 8 [7] (zP2 R C (ent M))] ?_;refine sRd ?_;refine sRc (fun wS hI Gk hG=>?_) (fun _ hv=>?_)
 ·go_simp
  refine(zYf _ R C r κ _ _ (HFH.out.below hI.bel) (yW _ _ _) HHN.out).mono ?_;rintro e wa ⟨v,rfl,hv,hba⟩;exact⟨_,rfl,hG _ _ hv,hba⟩
 obtain⟨_,-,rfl⟩:=hv;refine sRd ?_;refine sRc (fun wS hI Gk hG=>by go_simp;exact ck hG (zWs _ R R r R _ _ (HFU.out.below hI.bel) (yW _ _ _) hrR (xgf _) oM)) (fun va7 _=>?_);refine sRc (fun wS hI ha7 Gk hG=>?_) (fun va8 _=>?_)
 ·go_simp
  refine(zMi (zJb g1 hM1) _ _ (R-r) R _ ha7 HFI.out oM oM HGG.out HUL.out).mono ?_;rintro e wa ⟨v,r',c',H',U',V',rfl,hf',hm',hba⟩;have hv:zP2 R C (ent M) wa v:=⟨r',H',HLP.out _ _ _ _ _ hf',hm'⟩;exact⟨_,rfl,hG _ _ hv,hba⟩
 refine sRe ?_;intro w4 hbw4 _ ha7 ha8;obtain⟨m,G,hlp,hm⟩:=ha8;obtain⟨t1,t2,t3,rfl⟩:=hm.agg;have br:=br.below hbw4;have hB4:=nx hB hbw4;have r1:=br.three;clear c1 q0 q1 q2 q3 q4 q5 q6 q7 q8;have HMM:=xgv hm;have HLL:=xgv hlp;clear hm hlp;go_wp2;refine zAZ (r:=w.heap.size+1) rfl rfl rfl (br.put3 _ _ _) ⟨_,rfl,⟨m,G,HLL.out,HMM.out.keep3 br _ _ _⟩,yJ (yJ (yJ hB4 oM 0 _) oM 1 _) oM 2 _⟩
theorem zSg{q:Nat}(hM1:1<=M0)(v:Value)(M:List (List Int))(R C:Nat)(w:World)(h:zAC w v R C M)(hF:zBU R C M)(hR:R<=6)(hC:C<=1000000)(hA:leM M0 R C (ent M))(hp:p<=R)(hE:Ech C p κ (ent M))(hRd:zFr (fun _ _=>True) p κ (ent M))
  (hq1:zDW q R C (ent M)) (hq2:∀k,zDW k R C (ent M)->k<=q) (hg:gk (esp q p R+es (R-q)) M0<BD):
  CPq 62 #[v] w fun e w'=>∃v,e= .returned v/\zP2 R C (ent M) w' v/\BWq w w':=
 zXG hM1 v M R C w h hF hR hC hA hq1 hq2 hg fun v w h=>zST hM1 v M R C w h hF hR hC hp hE hRd (zK (zEY hM1 oM) hg) hA (zWV hq2)
theorem zW1{s:Nat}(hp:p<=3)(hs:s<=3)(hq:q<=3)(h1:p<=q)(h2:s<=q):esp q p (p+s)+es (p+s-q)<=34:=by
 have h:∀p,p<4->∀s,s<4->∀q,q<4->p<=q->s<=q->esp q p (p+s)+es (p+s-q)<=34:=by decide
 exact h p oM s oM q oM h1 h2
def qAK(R C:Nat)(A:Nat->Nat->Int)(m:Nat)(S:Nat->Nat->Int):Prop:=HB C m S (zZM R C A)/\zDW m R C A
def qAL(R C:Nat)(A:Nat->Nat->Int)(w:World)(v:Value):Prop:=∃m S,qAK R C A m S/\zAC w v m C (genM m C S)
abbrev tG:TypeId:=63
def qAA(f g:Nat)(t:TypeId)(w:World)(v:Value):Prop:=∃b,v= .func (.func f) #[] #[ptq b 0]/\Blk w b t #[.func (.func g) #[] #[]]
theorem zPo(he:2*h<=2^e)(he2:e<=35000000000000):h<BD:=zPF (k:=0) he (by rw[zEV];omega)
theorem zKq(he:2*h<=2^e)(he2:e<=35000000000000)(hF:zBU R C M)(hA:leM h R C (ent M)):∀r∈M,∀z∈r,Sm z:=by
 rw[zMg hF];exact zUr fun a ha b hb=>zX6 (zK (hA a ha b hb) (zPo he he2))
structure qAj(R C:Nat)(M:List (List Int))(k:Nat)(w:World)(v:Value):Prop where
 zero:k=0->zAC w v R C M
 one:k=1->zP2 C R (trF (ent M)) w v
 two:k=2->qAL R C (ent M) w v
theorem zTt(v1 v2:Value)(R1 C1 R2 C2:Int)(w:World)(h1:zEn R1 C1 w v1)(h2:zEn R2 C2 w v2)(hne:¬ (R1=R2/\C1=C2)):
  CPq 125 #[v1,v2] w fun e w'=>∃v,e= .returned v/\v= .bool false/\BWq w w':=by
 refine(zIj v1 v2 R1 C1 R2 C2 w h1 h2).mono ?_;rintro e w' ⟨rfl,hb⟩;exact⟨_,rfl,by rw[decide_eq_false hne],hb⟩
theorem zOJ(v1 v2:Value)(R Q C:Nat)(M1 M2:List (List Int))(w:World)(h1:zAC w v1 R C M1)(h2:zAC w v2 Q C M2)(hF1:zBU R C M1)(hF2:zBU Q C M2)(hne:R≠Q):
  CPq 80 #[v1,v2] w fun e w'=>e= .returned (.bool false)/\BWq w w':=by
 have H1:=xgv h1;have H2:=xgv h2;obtain⟨A1,rfl,h1⟩:=h1;obtain⟨A2,rfl,h2⟩:=h2;obtain⟨ao,n,cap,rfl,e2,e3,e4,-⟩:=id h1;obtain⟨bo,q,bcap,rfl,g2,g3,g4,-⟩:=id h2;obtain rfl:R=n:=by rw[<-e2,hF1.1]
 obtain rfl:Q=q:=by rw[<-g2,hF2.1]
 have HV1:=xgv hF1.valid;have HV2:=xgv hF2.valid;have HN:jZ (¬ ((R:Int)=(Q:Int)/\(C:Int)=(C:Int))):=⟨fun h=>hne oM⟩;clear hF1 hF2 e2 g2 hne h1 h2;have hl1:=zHJ (niq R) (niq C) (.slice ao R cap) (niq Q) (niq C) (.slice bo Q bcap);have hl2:=zEc (niq R) (niq C) (.slice ao R cap);have hl4:=zEc (niq Q) (niq C) (.slice bo Q bcap);have hl3:=zEu R C;have hl5:=zEu Q C;go_enter Tryz.func80,Tryz.ntmps80;go_upto_region 1 with(fail)
 refine zD ?_;intro W0 hW0;obtain⟨hB0,bx1,bx2,hs0⟩:=zAj hW0;have c1:=bx1.three;have d1:=bx2.three;clear hW0;refine zBl [pcD 2 [] (zY9 (niq R) (niq C) (.slice ao R cap) (niq Q) (niq C) (.slice bo Q bcap)),pcD 3 [2] (fun _ v=>v= .bool true),pcD 7 [] (zWk (niq R) (niq C) (.slice ao R cap)),pcD 8 [7] (zEn R C),pcD 10 [] (zWk (niq Q) (niq C) (.slice bo Q bcap)),pcD 11 [10] (zEn Q C),pcD 12 [8,11] (fun _ v=>v= .bool false)] ?_;refine sRd ?_;refine sRc (fun wS hI Gk hG=>?_) (fun va2 _=>?_)
 ·go_simp
  exact⟨hG _ _ ⟨_,rfl,qX _ _ _⟩,(zA _ _).alloc (xgf _) _⟩
 refine sRc (fun wS hI ha2 Gk hG=>?_) (fun _ hv=>?_)
 ·obtain⟨g2,rfl,gb2⟩:=ha2
  go_simp;refine(zOu g2 2 R C Q C _ _ M1 M2 _ gb2 (xgf _) oM ((H1.out.below hB0).below hI.bel).off ((H2.out.below hB0).below hI.bel).off HV1.out HV2.out).mono ?_;rintro e wa ⟨v,rfl,hv,hba⟩;exact⟨_,rfl,hG _ _ hv,hba⟩
 obtain⟨_,-,rfl⟩:=hv;refine sRd ?_;refine sRc (fun wS hI Gk hG=>?_) (fun va7 _=>?_)
 ·go_simp
  exact⟨hG _ _ ⟨_,rfl,qX _ _ _⟩,(zA _ _).alloc (xgf _) _⟩
 refine sRc (fun wS hI ha7 Gk hG=>?_) (fun va8 _=>?_)
 ·obtain⟨g7,rfl,gb7⟩:=ha7
  go_simp;refine(zFH g7 1 R C _ _ gb7 ⟨_,_,_,rfl⟩ (xgf _) oM).mono ?_;rintro e wa ⟨v,rfl,hv,hba⟩;exact⟨_,rfl,hG _ _ hv,hba⟩
 refine sRd ?_;refine sRc (fun wS hI Gk hG=>?_) (fun va10 _=>?_)
 ·go_simp
  exact⟨hG _ _ ⟨_,rfl,qX _ _ _⟩,(zA _ _).alloc (xgf _) _⟩
 refine sRc (fun wS hI ha10 Gk hG=>?_) (fun va11 _=>?_)
 ·obtain⟨g10,rfl,gb10⟩:=ha10
  go_simp;refine(zFH g10 1 Q C _ _ gb10 ⟨_,_,_,rfl⟩ (xgf _) oM).mono ?_;rintro e wa ⟨v,rfl,hv,hba⟩;exact⟨_,rfl,hG _ _ hv,hba⟩
 refine sRc (fun wS hI ha8 ha11 Gk hG=>?_) (fun _ hv=>?_)
 ·go_simp
  refine(zTt _ _ R C Q C _ ha8 ha11 HN.out).mono ?_;rintro e wa ⟨v,rfl,hv,hba⟩;exact⟨_,rfl,hG _ _ hv,hba⟩
 obtain⟨_,-,rfl⟩:=hv;refine sRd ?_;refine sRe ?_;intro w1 hbw1 ha2 _ ha7 ha8 ha10 ha11 _;have hBt:=nx hB0 hbw1;go_wp2;go_ret;exact⟨rfl,hBt⟩
theorem zXN(v1 v2:Value)(R Q C:Nat)(M1 M2:List (List Int))(w:World)(h1:zAC w v1 R C M1)(h2:zAC w v2 Q C M2)(hF1:zBU R C M1)(hF2:zBU Q C M2)(hC:C<=1000000):
  CPq 80 #[v1,v2] w fun e w'=>∃v,e= .returned v/\v= .bool (decide (M1=M2))/\BWq w w':=by
 by_cases e:R=Q
 ·subst e
  exact(zQd v1 v2 R C M1 M2 w h1 h2 hF1 hF2 hC).mono fun e w' h=>⟨_,h.1,rfl,h.2⟩
 refine(zOJ v1 v2 R Q C M1 M2 w h1 h2 hF1 hF2 e).mono fun e' w' h=>⟨_,h.1,?_,h.2⟩
 rw[decide_eq_false];rintro rfl;exact e (by rw[<-hF1.1,<-hF2.1])
def qAi(f g:Nat)(t:TypeId):World->Value->Prop:=fun w v=>∃s b1 b2,v=slq s 2 2/\Blk w s t #[.func (.func f) #[] #[ptq b1 0],.func (.func f) #[] #[ptq b2 0]]/\Blk w b1 t #[.func (.func g) #[] #[]]/\Blk w b2 t #[.func (.func g) #[] #[]]
def rest(R C:Nat)(H:Nat->Nat->Int)(x:Nat->Int):Nat->Int:=zE3 C H x R
def zY8(r:Nat)(c:Nat->Nat)(H:Nat->Nat->Int)(y:Nat->Int):Prop:=∀s,s<r->0<=y (c s)/\y (c s)<H s (c s)
section
variable {n C r:Nat} {c:Nat->Nat} {H:Nat->Nat->Int}
theorem zTR(hH:Hnf C n r c H)(hi:i<r)(y:Nat->Int):quo C H y i=y (c i)/H i (c i):=by
 unfold quo;rw[hH.ech.lead hi,if_neg oM];rfl
theorem zOb(hH:Hnf C n r c H)(h1:r<=i)(h2:i<n)(y:Nat->Int):quo C H y i=0:=by
 unfold quo;rw[zGY (hH.zero i h1 h2),if_pos oM]
theorem zM6(C:Nat)(H:Nat->Nat->Int)(x:Nat->Int)(i b:Nat):zE3 C H x i b=x b+zT i fun s=>-(zFw C H x s)*H s b:=by
 induction i with
 |zero=>simp[zE3,zT]
 |succ i ih=>
  show zE3 C H x i b+-(zFw C H x i)*H i b=_;rw[ih];exact Int.add_assoc _ _ _
theorem zVV(hH:Hnf C n r c H)(x:Nat->Int):∀i,i<=r->zY8 i c H (zE3 C H x i):=by
 intro i;induction i with
 |zero=>intro _ s hs;omega
 | succ i ih=>
  intro hi s hs;have hq:zFw C H x i=zE3 C H x i (c i)/H i (c i):=zTR hH oM _;have he:zE3 C H x (i+1) (c s)=zE3 C H x i (c s)+-(zFw C H x i)*H i (c s):=rfl;rw[he];by_cases e:s=i
  ·subst e
   have hp:=hH.ech.pos s oM;have h1:=zAy (zE3 C H x s (c s)) (show H s (c s)≠0 by omega);have h2:=zBA (zE3 C H x s (c s)) hp;have h3:=Int.emod_def (zE3 C H x s (c s)) (H s (c s));rw[hq,yA,qH (zE3 C H x s (c s)/H s (c s))];omega
  have h1:=ih oM s oM;rw[hH.ech.zero i oM (c s) (hH.ech.inc s i oM oM),zP,yY];exact h1
theorem zTd(hH:Hnf C n r c H)(x:Nat->Int):∀d b,r+d<=n->zE3 C H x (r+d) b=zE3 C H x r b:=by
 intro d b;induction d with
 |zero=>intro _;rfl
 |succ d ih=>
  intro hd;have hq:zFw C H x (r+d)=0:=zOb hH oM oM _;show zE3 C H x (r+d) b+-(zFw C H x (r+d))*H (r+d) b=_;rw[hq,ih oM];simp
theorem zVW(hH:Hnf C n r c H)(x:Nat->Int):zY8 r c H (rest n C H x):=by
 intro s hs;have h:=zVV hH x r (xgf _) s hs;have e:rest n C H x (c s)=zE3 C H x r (c s):=by
  have:=zTd hH x (n-r) (c s) (by have:=hH.le;omega);rwa[show r+(n-r)=n by have:=hH.le;omega]at this
 rw[e];exact h
theorem zOh(hH:Hnf C n r c H){y':Nat->Int}(h1:zY8 r c H y)(h2:zY8 r c H y')(h:∀b,b<C->y b-y' b=zT n fun t=>z t*H t b):∀b,b<C->y b=y' b:=by
 have h':∀b,b<C->y b-y' b=zT r fun t=>z t*H t b:=fun b hb=>by
  rw[h b hb];exact zDm hH.le fun t a1 a2=>by rw[hH.zero t a1 a2 b hb,zP]
 have hz:∀t,t<r->z t=0:=fun t ht=>zL fun hne=>by
  obtain⟨t,ht,h0,hb⟩:=zI0 ⟨t,ht,hne⟩;have e:=h' (c t) (hH.ech.lt t ht);rw[zLO hH.ech ht hb]at e;have a1:=h1 t ht;have a2:=h2 t ht;have hp:=hH.ech.pos t ht;have hle:(H t (c t)).natAbs<=(z t*H t (c t)).natAbs:=by
   rw[qV];exact qQ _ (Int.natAbs_pos.2 h0)
  rw[<-e]at hle;omega
 intro b hb;have e:=h' b hb;rw[zAS fun t ht=>by rw[hz t ht,zX]]at e;omega
theorem zTe(hH:Hnf C n r c H)(h:∀b,b<C->x b=zT n fun t=>z t*H t b):∀b,b<C->rest n C H x b=0:=
 zOh hH (zVW hH x) (y':=fun _=>0) (fun s hs=>⟨zDy _,hH.ech.pos s hs⟩) (z:=fun t=>z t+-(zFw C H x t)) fun b hb=>by
  have e1:rest n C H x b=_:=zM6 C H x n b;rw[e1,h b hb,Int.sub_zero,<-zBQ];exact zF fun t _=>by rw[zA2]
end
theorem zJL(a b:Int):(a/b).natAbs<=a.natAbs:=zBm a b
theorem Hnf.congr(h:Hnf C n r c F)(e:∀a,a<n->∀b,b<C->F a b=G a b):Hnf C n r c G:=by
 have hl:=h.le;refine⟨h.le,⟨h.ech.lt,fun k hk=>?_,fun k hk t ht=>?_,h.ech.inc⟩,fun i j hij hj _=>?_,fun a h1 h2 t ht=>?_⟩;rw[<-e k oM _ (h.ech.lt k hk)];exact h.ech.pos k hk;rw[<-e k oM t (by have:=h.ech.lt k hk;omega)];exact h.ech.zero k hk t ht;rw[<-e i oM _ (h.ech.lt j hj),<-e j oM _ (h.ech.lt j hj)];exact h.red i j hij hj trivial;rw[<-e a h2 t ht];exact h.zero a h1 h2 t ht
theorem zTc(hH:Hnf C n r c H)(hh:leM h n C H)(hx:∀b,b<C->(x b).natAbs<=m):
  ∀i,i<=n->∀b,b<C->(zE3 C H x i b).natAbs<=m*(1+h)^i:=by
 intro i;induction i with
 |zero=>intro _ b hb;simpa[zE3]using hx b hb
 | succ i ih=>
  intro hi b hb;have h1:=ih oM b hb;have hq:(zFw C H x i).natAbs<=m*(1+h)^i:=by
   by_cases hr:i<r
   ·show(quo C H (zE3 C H x i) i).natAbs<=_
    rw[zTR hH hr];exact zB (zJL _ _) (ih oM _ (hH.ech.lt i hr))
   show(quo C H (zE3 C H x i) i).natAbs<=_;rw[zOb hH oM oM];simp
  show(zE3 C H x i b+-(zFw C H x i)*H i b).natAbs<=_;have h2:(-(zFw C H x i)*H i b).natAbs<=m*(1+h)^i*h:=by
   rw[qV,zR];exact qO hq (hh i oM b hb)
  refine zB (Int.natAbs_add_le _ _) (zB (zDr h1 h2) ?_);rw[qI,<-zC,zAU,zAr];exact xgf _
theorem zTb(hH:Hnf C n r c H)(hh:leM h n C H)(hx:∀b,b<C->(x b).natAbs<=m)(hi:i<n):(zFw C H x i).natAbs<=m*(1+h)^i:=by
 by_cases hr:i<r
 ·show(quo C H (zE3 C H x i) i).natAbs<=_
  rw[zTR hH hr];exact zB (zJL _ _) (zTc hH hh hx i oM _ (hH.ech.lt i hr))
 show(quo C H (zE3 C H x i) i).natAbs<=_;rw[zOb hH oM hi];simp
theorem zWR(h:a<=2^199):a<BD:=by
 have h1:2^200<=B32^zUN:=zGe (by rw[zEV];omega);rw[zUS];exact zK h (zJ dE h1)
theorem zTJ(h:a<=2^e)(he:e<=100000):a<BD:=by
 have h1:2^(e+1)<=B32^zUN:=zGe (by rw[zEV];omega);rw[zUS];exact zK h (zJ (Nat.pow_lt_pow_right oM (zAq e)) h1)
theorem zXo(hm:m<=2^e)(hh:1+h<=2^e):m*(1+h)^i<=2^(e*(i+1)):=by
 have h1:(1+h)^i<=(2^e)^i:=yV hh i;rw[<-jO]at h1;refine zB (qO hm h1) ?_;rw[<-yD,Nat.mul_succ,zCp];exact xgf _
theorem zS5(hH:Hnf C n r c H)(hn:n<=4)(he:e<=10000)(hm:m<=2^e)(h1:1+h<=2^e)(hh:leM h n C H)(hx:∀b,b<C->(x b).natAbs<=m):zZc BD n C H x:=by
 have hg:∀i,i<=5->m*(1+h)^i<BD:=fun i hi=>zTJ (zXo hm h1) (by have:e*(i+1)<=10000*6:=qO he oM;omega)
 refine⟨fun a ha b hb=>zK (hh a ha b hb) (zTJ (e:=e) oM oM),fun i hi b hb=>zK (zTc hH hh hx i hi b hb) (hg i oM),fun i hi=>⟨zK (zTb hH hh hx hi) (hg i oM),fun b hb=>zK ?_ (hg (i+1) oM)⟩⟩;rw[qV,zR];refine zB (qO (zTb hH hh hx hi) (hh i hi b hb)) ?_;rw[qI,<-zC];exact zH _ oM
theorem zM5(h:rest n C H x b=0):x b=zT n fun t=>zFw C H x t*H t b:=by
 have e:rest n C H x b=_:=zM6 C H x n b;have e2:(zT n fun s=>-(zFw C H x s)*H s b)+(zT n fun t=>zFw C H x t*H t b)=0:=by
  rw[<-zBQ];have:(zT n fun t=>-(zFw C H x t)*H t b+zFw C H x t*H t b)=zT n fun _=>0:=zF fun t _=>by rw[yA];omega
  rw[this];exact zAS fun _ _=>rfl
 omega
theorem zM7(hH:Hnf C n r c H)(x:Nat->Int):(∀b,b<C->rest n C H x b=0)↔qG n C H x:=
 ⟨fun h=>⟨fun t=>zFw C H x t,fun b hb=>zM5 (h b hb)⟩,fun⟨_,h⟩=>zTe hH h⟩
end Go.Proofs.YtkidaebmhlijlaaGreat
