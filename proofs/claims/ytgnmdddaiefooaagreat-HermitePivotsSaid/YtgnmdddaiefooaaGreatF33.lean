/- The Hermite normal form is unique. Plain Lean. Hermite normal forms: how large, square ones, and what determinants tell. Plain Lean. smith's run (the mirror) ends within bounds; what its matrices are to each other. Plain Lean. hermite.Form of small matrices: a Hermite normal form, with its transforms. -/
import Derived.Test.YtgnmdddaiefooaaGreatF30
import Derived.Test.YtgnmdddaiefooaaGreatF32
set_option linter.unusedVariables false
set_option linter.unusedSimpArgs false
set_option linter.unusedSectionVars false
set_option maxHeartbeats 16000000
set_option maxRecDepth 100000
namespace Go.Proofs.YtgnmdddaiefooaaGreat
open Go.RowKit
theorem zGl{r:Nat}{x:Nat->Int}(h:∃t,t<r/\x t≠0):∃t,t<r/\x t≠0/\∀s,s<t->x s=0:=by
 obtain⟨t,ht⟩:=h;induction t using Nat.strongRecOn with
 | ind t ih=>
  by_cases he:∃s,s<t/\x s≠0
  ·obtain⟨s,h1,h2⟩:=he
   exact ih s h1 ⟨by omega,h2⟩
  ·exact⟨t,ht.1,ht.2,fun s hs=>Classical.byContradiction fun hn=>he ⟨s,hs,hn⟩⟩
theorem zIS{C r:Nat}{c:Nat->Nat}{H:Nat->Nat->Int}{x:Nat->Int}(hE:Ech C r c H){t:Nat}(ht:t<r)(hx:∀s,s<t->x s=0):(zW r fun s=>x s*H s (c t))=x t*H t (c t):=
 zAC ht fun s hs hne=>by
  rcases Nat.lt_or_ge s t with h|h
  ·rw[hx s h,Int.zero_mul]
  ·rw[hE.zero s hs _ (hE.inc t s oM hs),Int.mul_zero]
theorem zF9{C r:Nat}{c:Nat->Nat}{H:Nat->Nat->Int}{x:Nat->Int}(hE:Ech C r c H){t b:Nat}(ht:t<r)(hx:∀s,s<t->x s=0)(hb:b<c t):(zW r fun s=>x s*H s b)=0:=
 zA0 fun s hs=>by
  rcases Nat.lt_or_ge s t with h|h
  ·rw[hx s h,Int.zero_mul]
  ·have:b<c s:=by
    rcases Nat.lt_or_ge t s with h2|h2
    ·have:=hE.inc t s h2 hs;omega
    ·obtain rfl:s=t:=by omega
     exact hb
   rw[hE.zero s hs _ this,Int.mul_zero]
theorem zCN{C r:Nat}{c:Nat->Nat}{H:Nat->Nat->Int}{v x:Nat->Int}(hE:Ech C r c H)(hv:∀b,b<C->v b=zW r fun t=>x t*H t b){d:Nat}(hd:d<C)(h0:v d≠0)(hz:∀b,b<d->v b=0):
  ∃j,j<r/\c j=d/\v d=x j*H j (c j):=by
 have hex:∃t,t<r/\x t≠0:=Classical.byContradiction fun hn=>h0 (by
  rw[hv d hd];exact zA0 fun t ht=>by
   have:x t=0:=Classical.byContradiction fun h=>hn ⟨t,ht,h⟩
   rw[this,Int.zero_mul])
 obtain⟨t,ht,hx,hbef⟩:=zGl hex;have h1:=zIS hE ht hbef;have h2:v (c t)=x t*H t (c t):=by rw[hv _ (hE.lt t ht),h1]
 have h3:v (c t)≠0:=by
  rw[h2];exact Int.mul_ne_zero hx (by have:=hE.pos t ht;omega)
 have h4:c t=d:=by
  rcases Nat.lt_trichotomy (c t) d with h|h|h
  ·exact absurd (hz _ h) h3
  ·exact h
  ·exact absurd (by rw[hv d hd];exact zF9 hE ht hbef h) h0
 exact⟨t,ht,h4,by rw[<-h4];exact h2⟩
def zAp(n C:Nat)(H G:Nat->Nat->Int):Prop:=∃X:Nat->Nat->Int,∀a,a<n->∀b,b<C->G a b=zW n fun t=>X a t*H t b
theorem Hnf.span{n C r:Nat}{c:Nat->Nat}{H G:Nat->Nat->Int}(hH:Hnf C n r c H)(h:zAp n C H G):∃X:Nat->Nat->Int,∀a,a<n->∀b,b<C->G a b=zW r fun t=>X a t*H t b:=by
 obtain⟨X,e⟩:=h;refine⟨X,fun a ha b hb=>?_⟩;rw[e a ha b hb];exact zE1 hH.le fun t h2 h3=>by rw[hH.zero t h2 h3 b hb,Int.mul_zero]
theorem zGn{n C r r':Nat}{c c':Nat->Nat}{H G:Nat->Nat->Int}(hH:Hnf C n r c H)(hG:Hnf C n r' c' G)(h1:zAp n C H G)(h2:zAp n C G H):∀k,k<r->k<r'/\c' k=c k:=by
 obtain⟨X,hX⟩:=hH.span h1;obtain⟨Y,hY⟩:=hG.span h2;have cG:∀k,k<r'->∃j,j<r/\c j=c' k:=fun k hk=>by
  obtain⟨j,a,b,-⟩:=zCN hH.ech (v:=G k) (x:=X k) (fun b hb=>hX k (Nat.lt_of_lt_of_le hk hG.le) b hb) (hG.ech.lt k hk) (by have:=hG.ech.pos k hk;omega) (hG.ech.zero k hk);exact⟨j,a,b⟩
 have cH:∀k,k<r->∃j,j<r'/\c' j=c k:=fun k hk=>by
  obtain⟨j,a,b,-⟩:=zCN hG.ech (v:=H k) (x:=Y k) (fun b hb=>hY k (Nat.lt_of_lt_of_le hk hH.le) b hb) (hH.ech.lt k hk) (by have:=hH.ech.pos k hk;omega) (hH.ech.zero k hk);exact⟨j,a,b⟩
 intro k;induction k using Nat.strongRecOn with
 | ind k ih=>
  intro hk;obtain⟨j,hj,ej⟩:=cH k hk;have hkj:k<=j:=by
   refine Nat.le_of_not_lt fun h=>?_
   have e1:=(ih j h oM).2;have:=hH.ech.inc j k h hk;omega
  have hkr:k<r':=by omega
  refine⟨hkr,?_⟩;obtain⟨i,hi,ei⟩:=cG k hkr;have h3:c' k<=c' j:=by
   rcases Nat.lt_or_ge k j with h|h
   ·exact Nat.le_of_lt (hG.ech.inc k j h hj)
   ·obtain rfl:k=j:=by omega
    exact xgf _
  have h4:k<=i:=by
   refine Nat.le_of_not_lt fun h=>?_
   have e1:=(ih i h oM).2;have:=hG.ech.inc i k h hkr;omega
  have h5:c k<=c i:=by
   rcases Nat.lt_or_ge k i with h|h
   ·exact Nat.le_of_lt (hH.ech.inc k i h hi)
   ·obtain rfl:k=i:=by omega
    exact xgf _
  omega
theorem zEE{n C r r':Nat}{c c':Nat->Nat}{H G:Nat->Nat->Int}(hH:Hnf C n r c H)(hG:Hnf C n r' c' G)(h1:zAp n C H G)(h2:zAp n C G H):
  r=r'/\(∀k,k<r->c' k=c k)/\∀a,a<n->∀b,b<C->G a b=H a b:=by
 have k1:=zGn hH hG h1 h2;have k2:=zGn hG hH h2 h1;have hr:r=r':=by
  have a1:r<=r':=by
   rcases Nat.eq_zero_or_pos r with h|h
   ·omega
   ·have:=(k1 (r-1) oM).1;omega
  have a2:r'<=r:=by
   rcases Nat.eq_zero_or_pos r' with h|h
   ·omega
   ·have:=(k2 (r'-1) oM).1;omega
  omega
 subst hr;have hc:∀k,k<r->c' k=c k:=fun k hk=>(k1 k hk).2
 obtain⟨X,hX⟩:=hH.span h1;obtain⟨Y,hY⟩:=hG.span h2;have hp:∀k,k<r->G k (c k)=H k (c k):=fun k hk=>by
  obtain⟨j,j1,j2,j3⟩:=zCN hH.ech (v:=G k) (x:=X k) (fun b hb=>hX k (Nat.lt_of_lt_of_le hk hG.le) b hb) (hG.ech.lt k hk) (by have:=hG.ech.pos k hk;omega) (hG.ech.zero k hk);obtain⟨i,i1,i2,i3⟩:=zCN hG.ech (v:=H k) (x:=Y k) (fun b hb=>hY k (Nat.lt_of_lt_of_le hk hH.le) b hb) (hH.ech.lt k hk) (by have:=hH.ech.pos k hk;omega) (hH.ech.zero k hk);have ej:j=k:=by
   rw[hc k hk]at j2;rcases Nat.lt_trichotomy j k with h|h|h
   ·have:=hH.ech.inc j k h hk;omega
   ·exact h
   ·have:=hH.ech.inc k j h j1;omega
  have ei:i=k:=by
   rw[hc i i1]at i2;rcases Nat.lt_trichotomy i k with h|h|h
   ·have:=hH.ech.inc i k h hk;omega
   ·exact h
   ·have:=hH.ech.inc k i h i1;omega
  subst ej;subst ei;rw[hc _ hk]at j3 i3;exact Int.dvd_antisymm (by have:=hG.ech.pos _ hk;rw[hc _ hk]at this;omega) (by have:=hH.ech.pos _ hk;omega) ⟨Y _ _,by rw[i3,Int.mul_comm]⟩ ⟨X _ _,by rw[j3,Int.mul_comm]⟩
 refine⟨rfl,hc,fun a ha b hb=>?_⟩;rcases Nat.lt_or_ge a r with har|har
 ·have hD:∀b,b<C->G a b-H a b=zW r fun t=>(X a t-(if t=a then 1 else 0))*H t b:=fun b hb=>by
   have e1:(zW r fun t=>(if t=a then(1:Int)else 0)*H t b)=H a b:=by
    rw[zAC har (fun i _ hne=>by rw[if_neg hne,Int.zero_mul]),if_pos rfl,Int.one_mul]
   have e2:=zHD r 1 (-1) (fun t=>X a t*H t b) (fun t=>(if t=a then(1:Int)else 0)*H t b);have e4:(zW r fun t=>(X a t-(if t=a then 1 else 0))*H t b)=zW r fun t=>1*(X a t*H t b)+(-1)*((if t=a then(1:Int)else 0)*H t b):=zE fun t _=>by
    rw[Int.sub_mul];omega
   rw[hX a ha b hb,e4,e2,e1];omega
  have hz:∀t,t<r->X a t-(if t=a then 1 else 0)=0:=Classical.byContradiction fun hn=>by
   have hex:∃t,t<r/\X a t-(if t=a then 1 else 0)≠0:=Classical.byContradiction fun h=>hn fun t ht=>Classical.byContradiction fun h2=>h ⟨t,ht,h2⟩
   obtain⟨t,ht,hx,hbef⟩:=zGl hex;have e1:=zIS hH.ech ht hbef;rw[<-hD _ (hH.ech.lt t ht)]at e1;have hpos:=hH.ech.pos t ht;have hlow:∀y:Int,y≠0->H t (c t)<=(y*H t (c t)).natAbs:=fun y hy=>by
    rw[Int.natAbs_mul];have:1<=y.natAbs:=by omega
    have h5:=Nat.mul_le_mul_right (H t (c t)).natAbs this;omega
   have h6:=hlow _ hx;rw[<-e1]at h6;rcases Nat.lt_trichotomy t a with h|h|h
   ·have f1:=hH.ech.zero a har (c t) (hH.ech.inc t a h har)
    have f2:=hG.ech.zero a har (c t) (by rw[hc a har];exact hH.ech.inc t a h har);rw[f1,f2]at h6;simp at h6;omega
   ·subst h
    rw[hp t ht]at h6;simp at h6;omega
   ·obtain⟨f1,f2⟩:=hH.red a t h ht trivial
    obtain⟨f3,f4⟩:=hG.red a t h ht trivial;rw[hc t ht,hp t ht]at f4;rw[hc t ht]at f3;omega
  have e4:=hD b hb;rw[zA0 (fun t ht=>by rw[hz t ht,Int.zero_mul])]at e4;omega
 ·rw[hG.zero a har ha b hb,hH.zero a har ha b hb]
theorem zGA{k R:Nat}{F:Nat->Nat->Int}{i:Nat}{c:Nat->Int}{v:Nat->Nat->Int}(h:i<k):
  det k (zAL F i fun a=>zW R fun t=>c t*v a t)=zW R fun t=>c t*det k (zAL F i fun a=>v a t):=by
 have:=zDL (k:=k) (R:=R) (F:=trp F) (i:=i) (c:=c) (v:=fun t a=>v a t) h;rw[<-jP]at this;refine this.trans (zE fun t ht=>?_);rw[<-jP];rfl
theorem zLK(k:Nat):det k idf=1:=by
 rw[zBH (fun a _ b _ h=>by unfold idf;rw[if_neg oM])];induction k with
 |zero=>rfl
 |succ k ih=>unfold yH;rw[ih];simp[idf]
theorem zLV{k:Nat}(hk:k<=4):zGG k<=24:=by
 have:∀k,k<=4->zGG k<=24:=by decide
 exact this k hk
theorem zK1{k h:Nat}{F:Nat->Nat->Int}(hk:k<=4)(h1:1<=h)(hF:∀a,a<k->∀b,b<k->(F a b).natAbs<=h):(det k F).natAbs<=24*h^4:=
 Nat.le_trans (zD4 hF) (Nat.mul_le_mul (zLV hk) (zCY h1 hk))
theorem zJv{r R:Nat}{P V:Nat->Nat->Int}(h:∀a,a<r->∀b,b<r->zW R (fun t=>P a t*V t b)=idf a b):∃σ:Nat->Nat,(∀a,a<r->σ a<R)/\det r (fun a b=>V (σ a) b)≠0:=by
 refine Classical.byContradiction fun hn=>?_
 have h1:(0:Int)∣det r fun a b=>zW R fun t=>P a t*V t b:=zAE fun σ hσ=>by
  have:det r (fun a b=>V (σ a) b)=0:=Classical.byContradiction fun h0=>hn ⟨σ,hσ,h0⟩
  rw[this];exact Int.dvd_refl 0
 rw[jD (G:=idf) h,zLK]at h1;have:=Int.zero_dvd.1 h1;omega
theorem zIi{R C r h:Nat}{c:Nat->Nat}{A H U X:Nat->Nat->Int}(hR:R<=4)(h1:1<=h)(hH:Hnf C R r c H)(hA:leM h R C A)(hback:∀a,a<R->∀b,b<C->A a b=zW R fun t=>X t a*H t b)
  (huv:∀a,a<R->∀b,b<R->dot R U X a b=idf a b):leM (24*(8*h)^4) R C H:=by
 have hr4:r<=4:=Nat.le_trans hH.le hR;have hback2:∀a,a<R->∀b,b<C->A a b=zW r fun t=>X t a*H t b:=fun a ha b hb=>by
  rw[hback a ha b hb];refine zE1 hH.le fun t h2 h3=>?_
  rw[hH.zero t h2 h3 b hb,Int.mul_zero]
 have hpivz:∀j,j<r->∀t,j<t->t<r->H t (c j)=0:=fun j hj t h2 h3=>hH.ech.zero t h3 _ (hH.ech.inc j t h2 h3)
 have hV:∀j,j<r->∀a,a<R->(X j a).natAbs<=h*2^j:=by
  intro j;induction j using Nat.strongRecOn with
  | ind j ih=>
   intro hj a ha;have e:=hback2 a ha (c j) (hH.ech.lt j hj);have hp:=hH.ech.pos j hj;rw[zE1 (n:=j+1) oM (fun t h2 h3=>by rw[hpivz j hj t oM h3,Int.mul_zero])]at e;have hs:zW (j+1) (fun t=>X t a*H t (c j))=zW j (fun t=>X t a*H t (c j))+X j a*H j (c j):=rfl;rw[hs]at e;obtain⟨p,hpp⟩:∃p:Nat,H j (c j)=(p:Int):=⟨(H j (c j)).toNat,by omega⟩;have hsum:∀m,m<=j->(zW m (fun t=>X t a*H t (c j))).natAbs<=(h*2^m-h)*p:=by
    intro m;induction m with
    |zero=>intro _;simp[zW]
    | succ m ihm=>
     intro hm;have g1:=ihm oM;have g2:=ih m oM oM a ha;have g3:=hH.red m j oM hj trivial;have g4:(H m (c j)).natAbs<=p:=by omega
     have g5:(X m a*H m (c j)).natAbs<=h*2^m*p:=by rw[Int.natAbs_mul];exact Nat.mul_le_mul g2 g4
     have g6:(zW (m+1) (fun t=>X t a*H t (c j))).natAbs<=(zW m (fun t=>X t a*H t (c j))).natAbs+(X m a*H m (c j)).natAbs:=by
      show(zW m (fun t=>X t a*H t (c j))+X m a*H m (c j)).natAbs<=_;omega
     have g7:(h*2^m-h)*p+h*2^m*p=(h*2^(m+1)-h)*p:=by
      rw[<-Nat.add_mul];congr 1;have:h<=h*2^m:=Nat.le_mul_of_pos_right _ (Nat.pow_pos oM);rw[Nat.pow_succ,<-Nat.mul_assoc];omega
     omega
   have g1:=hsum j (xgf _);have g2:=hA a ha (c j) (hH.ech.lt j hj);have g3:(X j a*H j (c j)).natAbs<=h+(h*2^j-h)*p:=by omega
   rw[Int.natAbs_mul,hpp,Int.natAbs_natCast]at g3;have g4:h<=h*p:=Nat.le_mul_of_pos_right _ oM;have g5:h*p+(h*2^j-h)*p=h*2^j*p:=by
    rw[<-Nat.add_mul];congr 1;have:h<=h*2^j:=Nat.le_mul_of_pos_right _ (Nat.pow_pos oM);omega
   have g6:(X j a).natAbs*p<=h*2^j*p:=by omega
   exact Nat.le_of_mul_le_mul_right g6 oM
 have hV8:∀j,j<r->∀a,a<R->(X j a).natAbs<=8*h:=fun j hj a ha=>by
  have g1:=hV j hj a ha;have g2:2^j<=2^3:=Nat.pow_le_pow_right oM oM;have g3:h*2^j<=h*2^3:=Nat.mul_le_mul_left _ g2;omega
 obtain⟨σ,hσ,hdet⟩:=zJv (r:=r) (R:=R) (P:=U) (V:=fun t b=>X b t) (fun a ha b hb=>huv a (by have:=hH.le;omega) b (by have:=hH.le;omega));intro i hi b hb;rcases Nat.lt_or_ge i r with hir|hir
 ·have e1:det r (zAL (fun a b=>X b (σ a)) i fun a=>A (σ a) b)=H i b*det r (fun a b=>X b (σ a)):=by
   have e2:det r (zAL (fun a b=>X b (σ a)) i fun a=>A (σ a) b)=det r (zAL (fun a b=>X b (σ a)) i fun a=>zW r fun t=>H t b*X t (σ a)):=jD fun a ha b' hb'=>by
    unfold zAL;split
    ·dsimp only
     rw[hback2 _ (hσ a ha) b hb];exact zE fun t ht=>Int.mul_comm _ _
    ·rfl
   rw[e2,zGA (v:=fun a t=>X t (σ a)) hir,zAC (c:=i) hir]
   ·rw[zDh (fun a b=>X b (σ a)) i]
   ·intro t ht hne
    have:det r (zAL (fun a b=>X b (σ a)) i fun a=>X t (σ a))=0:=by
     rcases Nat.lt_or_ge t i with h2|h2
     ·exact zCU h2 hir fun a=>by unfold zAL;rw[if_pos rfl,if_neg oM]
     ·exact zCU (c:=i) (d:=t) oM ht fun a=>by unfold zAL;rw[if_pos rfl,if_neg oM]
    rw[this,Int.mul_zero]
  have e3:(det r (zAL (fun a b=>X b (σ a)) i fun a=>A (σ a) b)).natAbs<=24*(8*h)^4:=zK1 hr4 oM fun a ha b' hb'=>by
   unfold zAL;split
   ·have:=hA _ (hσ a ha) b hb
    dsimp only;omega
   ·exact hV8 b' hb' _ (hσ a ha)
  rw[e1,Int.natAbs_mul]at e3;exact Nat.le_trans (Nat.le_mul_of_pos_right _ oM) e3
 ·rw[hH.zero i hir hi b hb]
  exact Nat.zero_le _
theorem zHW{n m r r':Nat}{c σ:Nat->Nat}{F H X:Nat->Nat->Int}(hH:Hnf m n r c H)(hback:∀a,a<n->∀b,b<m->F a b=zW n fun t=>X t a*H t b)(hcol:∀a,a<n->∀b,r'<=b->b<m->H a b=0)(hr':r'<=m)
  (hσ:∀a,a<r'->σ a<n) (hdet:det r' (fun a b=>F (σ a) b)≠0):r=r'/\∀k,k<r->c k=k:=by
 have hc:∀k,k<r->c k<r':=fun k hk=>by
  rcases Nat.lt_or_ge (c k) r' with h|h
  ·exact h
  ·have h1:=hcol k (by have:=hH.le;omega) (c k) h (hH.ech.lt k hk)
   have h2:=hH.ech.pos k hk;omega
 have hck:∀k,k<r->k<=c k:=by
  intro k;induction k with
  |zero=>intro _;omega
  |succ k ih=>
   intro hk;have h1:=ih oM;have h2:=hH.ech.inc k (k+1) oM hk;omega
 have hle:r<=r':=by
  rcases Nat.eq_zero_or_pos r with h|h
  ·omega
  ·have h1:=hck (r-1) oM
   have h2:=hc (r-1) oM;omega
 have hge:r'<=r:=by
  rcases Nat.lt_or_ge r r' with h|h
  ·have h1:(0:Int)∣det r' fun a b=>zW n fun t=>X t (σ a)*H t b:=zAE (P:=fun a t=>X t (σ a)) (F:=H) fun τ hτ=>by
    refine zBJ (R:=n) (F:=H) (fun τ hτ hi=>?_) τ hτ;have h2:=hi.le (r'-1) oM;rw[zAF (c:=r'-1) oM fun b hb=>hH.zero _ oM (hτ _ oM) b oM];exact Int.dvd_refl 0
   rw[jD (G:=fun a b=>F (σ a) b) fun a ha b hb=>(hback _ (hσ a ha) b oM).symm]at h1;exact absurd (Int.zero_dvd.1 h1) hdet
  ·exact h
 refine⟨by omega,fun k hk=>?_⟩;have hup:∀d k,k+d+1=r->c k+d<r':=by
  intro d;induction d with
  |zero=>intro k hk;exact hc k oM
  |succ d ih=>
   intro k hk;have h1:=ih (k+1) oM;have h2:=hH.ech.inc k (k+1) oM oM;omega
 have h1:=hup (r-1-k) k oM;have h2:=hck k hk;omega
theorem zLt{r:Nat}{f:Nat->Int}(h:∀i,i<r->0<f i){i:Nat}(hi:i<r):f i<=yH r f:=by
 induction r with
 |zero=>omega
 | succ r ih=>
  have hp:0<yH r f:=zDZ fun j hj=>h j oM
  have hl:=h r oM;unfold yH;by_cases e:i=r
  ·rw[e]
   have:1*f r<=yH r f*f r:=Int.mul_le_mul_of_nonneg_right oM oM;omega
  ·have h1:=ih (fun j hj=>h j oM) oM
   have:yH r f*1<=yH r f*f r:=Int.mul_le_mul_of_nonneg_left oM oM;omega
structure Rel(R C:Nat)(A:Nat->Nat->Int)(z:W5):Prop where
 s:∀a,a<R->∀b,b<C->z.s a b=zW R fun s=>z.u a s*zW C fun t=>A s t*z.w b t
 uv:∀a,a<R->∀b,b<R->dot R z.u z.v a b=idf a b
 vu:∀a,a<R->∀b,b<R->cod R z.v z.u a b=idf a b
 wx:∀a,a<C->∀b,b<C->dot C z.w z.x a b=idf a b
 xw:∀a,a<C->∀b,b<C->cod C z.x z.w a b=idf a b
theorem zB5(a b:Nat):idf a b=idf b a:=by unfold idf;split<;>split<;>omega
theorem zCi{n a:Nat}(ha:a<n)(f:Nat->Int):zW n (fun t=>f t*idf t a)=f a:=by
 rw[zAC (c:=a) ha]
 ·unfold idf;rw[if_pos rfl,Int.mul_one]
 ·intro t ht hne
  unfold idf;rw[if_neg hne,Int.mul_zero]
theorem zGF(n:Nat):∀a,a<n->∀b,b<n->dot n idf idf a b=idf a b:=fun a ha b hb=>by
 unfold dot;rw[zE (g:=fun t=>idf a t*idf t b) (fun t ht=>by rw[zB5 b t]),zCi hb]
theorem zIO(n:Nat):∀a,a<n->∀b,b<n->cod n idf idf a b=idf a b:=fun a ha b hb=>by
 unfold cod;rw[zE (g:=fun t=>idf a t*idf t b) (fun t ht=>by rw[zB5 t a]),zCi hb]
theorem Rel.start(R C:Nat)(A:Nat->Nat->Int):Rel R C A ⟨A,idf,idf,idf,idf⟩:=
 ⟨fun a ha b hb=>by
  show A a b=zW R fun s=>idf a s*zW C fun t=>A s t*idf b t
  rw[<-zDR ha fun s=>zW C fun t=>A s t*idf b t,zE (g:=fun t=>A a t*idf t b) (fun t ht=>by rw[zB5 b t]),zCi hb],
 zGF R,zIO R,zGF C,zIO C⟩
theorem Rel.rows{R C:Nat}{A:Nat->Nat->Int}{z:W5}{l:List Op}(h:Rel R C A z)(hl:qG R l):Rel R C A ⟨zA2 l z.s,zA2 l z.u,zFe l z.v,z.w,z.x⟩:=
 ⟨fun a ha b hb=>zGS (b:=b) (G:=fun s b=>zW C fun t=>A s t*z.w b t) hl (fun a ha=>h.s a ha b hb) a ha,zGR hl h.uv,fun a ha b hb=>by
  show cod R (zFe l z.v) (zA2 l z.u) a b=_;rw[zGQ hl];exact h.vu a ha b hb,h.wx,h.xw⟩
theorem Rel.cols{R C:Nat}{A:Nat->Nat->Int}{z:W5}{l:List Op}(h:Rel R C A z)(hl:qG C l):Rel R C A ⟨trF (zA2 l (trF z.s)),z.u,z.v,zA2 l z.w,zFe l z.x⟩:=
 ⟨fun a ha b hb=>by
  have h1:∀b,b<C->trF z.s b a=zW C fun t=>z.w b t*zW R fun s=>z.u a s*A s t:=fun b hb=>by
   show z.s a b=_;rw[h.s a ha b hb];simp only[<-qE];rw[yO];refine zE fun t ht=>zE fun s hs=>?_
   rw[Int.mul_comm (z.w b t),Int.mul_assoc]
  have h2:=zGS (b:=a) (G:=fun t a=>zW R fun s=>z.u a s*A s t) hl h1 b hb;show zA2 l (trF z.s) b a=_;rw[h2];simp only[<-qE];rw[yO];refine zE fun t ht=>zE fun s hs=>?_
  rw[Int.mul_comm (zA2 l z.w b s),Int.mul_assoc],
 h.uv,h.vu,zGR hl h.wx,fun a ha b hb=>by
  show cod C (zFe l z.x) (zA2 l z.w) a b=_;rw[zGQ hl];exact h.xw a ha b hb⟩
theorem Rel.back{R C:Nat}{A:Nat->Nat->Int}{z:W5}(h:Rel R C A z):∀a,a<R->∀b,b<C->A a b=zW R fun s=>z.v s a*zW C fun t=>z.s s t*z.x t b:=by
 intro a ha b hb;have e1:∀s,s<R->zW C (fun t=>z.s s t*z.x t b)=zW R fun s'=>z.u s s'*A s' b:=fun s hs=>by
  have g1:∀t,t<C->z.s s t*z.x t b=zW R fun s'=>z.u s s'*(zW C fun t'=>A s' t'*(z.w t t'*z.x t b)):=fun t ht=>by
   rw[h.s s hs t ht,<-zAI];refine zE fun s' hs'=>?_
   rw[Int.mul_assoc,<-zAI];congr 1;exact zE fun t' ht'=>Int.mul_assoc _ _ _
  rw[zE g1,yO];refine zE fun s' hs'=>?_
  rw[qE,yO];congr 1;have g2:∀t',t'<C->zW C (fun t=>A s' t'*(z.w t t'*z.x t b))=A s' t'*idf t' b:=fun t' ht'=>by
   rw[qE];have:=h.xw b hb t' ht';unfold cod at this;rw[zB5 t' b,<-this];congr 1;exact zE fun t ht=>Int.mul_comm _ _
  rw[zE g2,zCi hb fun t'=>A s' t']
 rw[zE (fun s hs=>by rw[e1 s hs])];have g3:∀s,s<R->z.v s a*zW R (fun s'=>z.u s s'*A s' b)=zW R fun s'=>(z.v s a*z.u s s')*A s' b:=fun s hs=>by
  rw[<-qE];exact zE fun s' hs'=>(Int.mul_assoc _ _ _).symm
 rw[zE g3,yO];have g4:∀s',s'<R->zW R (fun s=>(z.v s a*z.u s s')*A s' b)=idf a s'*A s' b:=fun s' hs'=>by
  rw[zAI];congr 1;exact h.vu a ha s' hs'
 rw[zE g4];exact zDR ha fun s'=>A s' b
structure leW(M R C Cu Cw:Nat)(z:W5):Prop where
 s:leM M R C z.s
 u:leM M R Cu z.u
 v:leM M R Cu z.v
 w:leM M C Cw z.w
 x:leM M C Cw z.x
theorem leW.mono{M M' R C Cu Cw:Nat}{z:W5}(h:leW M R C Cu Cw z)(hM:M<=M'):leW M' R C Cu Cw z:=⟨h.s.mono hM,h.u.mono hM,h.v.mono hM,h.w.mono hM,h.x.mono hM⟩
theorem zIs{M R C:Nat}{F:Nat->Nat->Int}(h:leM M R C F):leM M C R (trF F):=fun a ha b hb=>h b hb a ha
def rnd(z:W5)(l1 l2:List Op):W5:=⟨trF (zA2 l2 (trF (zA2 l1 z.s))),zA2 l1 z.u,zFe l1 z.v,zA2 l2 z.w,zFe l2 z.x⟩
theorem Rel.rnd{R C:Nat}{A:Nat->Nat->Int}{z:W5}{l1 l2:List Op}(h:Rel R C A z)(h1:qG R l1)(h2:qG C l2):Rel R C A (rnd z l1 l2):=(h.rows h1).cols h2
def GE(T:Nat):Nat:=(2*T)^KE
structure Low(R C r:Nat)(F:Nat->Nat->Int):Prop where
 hnf:Hnf R C r (fun k=>k) (trF F)
 row:∀a,r<=a->a<R->∀b,b<C->F a b=0
 le:r<=R
theorem zI8{n b:Nat}{l:List Op}(hl:qG n l):∀{F:Nat->Nat->Int},(∀a,a<n->F a b=0)->∀a,a<n->zA2 l F a b=0:=by
 intro F h a ha;rw[zEv hl F a ha b];exact zA0 fun t ht=>by rw[h t ht,Int.mul_zero]
theorem Hnf.congr_c{C n r:Nat}{c:Nat->Nat}{F:Nat->Nat->Int}(h:Hnf C n r c F)(he:∀k,k<r->c k=k):Hnf C n r (fun k=>k) F:=
 ⟨h.le,⟨fun k hk=>by have:=h.ech.lt k hk;rwa[he k hk]at this,fun k hk=>by have:=h.ech.pos k hk;rw[he k hk]at this;exact this,fun k hk t ht=>h.ech.zero k hk t (by rw[he k hk];exact ht),fun k l h3 _=>h3⟩,
  fun i j h3 h4 _=>by have:=h.red i j h3 h4 trivial;rw[he j h4]at this;exact this,h.zero⟩
theorem first{R C r:Nat}{F:Nat->Nat->Int}{l1:List Op}{r1:Nat}{c1:Nat->Nat}(hF:Low R C r F)(hl:qG R l1)(h1:Hnf C R r1 c1 (zA2 l1 F)):
  r1=r/\Hnf C R r (fun k=>k) (zA2 l1 F)/\∀a,a<R->∀b,r<=b->b<C->zA2 l1 F a b=0:=by
 have hz:∀a,a<R->∀b,r<=b->b<C->zA2 l1 F a b=0:=fun a ha b h3 h4=>zI8 hl (fun a' ha'=>hF.hnf.zero b h3 h4 a' ha') a ha
 have hdet:det r (fun a b=>F a b)≠0:=by
  rw[zBH (F:=F) fun a ha b hb hab=>hF.hnf.ech.zero b hb a hab];have:=zDZ (n:=r) (f:=fun i=>F i i) fun i hi=>hF.hnf.ech.pos i hi
  omega
 obtain⟨e1,e2⟩:=zHW (σ:=fun a=>a) h1 (fun a ha b _=>zC7 hl F a ha b) hz hF.hnf.le (fun a ha=>by have:=hF.le;omega) hdet;subst e1;exact⟨rfl,h1.congr_c e2,hz⟩
def mu(r:Nat)(F:Nat->Nat->Int):Int:=yH r fun j=>yH (j+1) fun i=>F i i
theorem zAp.refl(n C:Nat)(F:Nat->Nat->Int):zAp n C F F:=⟨idf,fun _ ha b _=>zDR ha fun t=>F t b⟩
theorem zAp.trans{n C:Nat}{F G H:Nat->Nat->Int}(h:zAp n C F G)(k:zAp n C G H):zAp n C F H:=by
 obtain⟨X,hx⟩:=h;obtain⟨Y,hy⟩:=k;refine⟨fun a t=>zW n fun s=>Y a s*X s t,fun a ha b hb=>?_⟩;rw[hy a ha b hb];have:zW n (fun s=>Y a s*G s b)=zW n fun s=>zW n fun t=>Y a s*(X s t*F t b):=zE fun s hs=>by rw[hx s hs b hb,qE]
 rw[this,yO];refine zE fun t ht=>?_
 rw[<-zAI];exact zE fun s hs=>by rw[Int.mul_assoc]
theorem zAp.congr{n C:Nat}{F F' G G':Nat->Nat->Int}(h:zAp n C F G)(e1:∀a,a<n->∀b,b<C->F' a b=F a b)(e2:∀a,a<n->∀b,b<C->G' a b=G a b):zAp n C F' G':=by
 obtain⟨X,hx⟩:=h;exact⟨X,fun a ha b hb=>by rw[e2 a ha b hb,hx a ha b hb];exact zE fun t ht=>by rw[e1 t ht b hb]⟩
theorem zFq{n C:Nat}{l:List Op}(hl:qG n l)(F:Nat->Nat->Int):zAp n C F (zA2 l F)/\zAp n C (zA2 l F) F:=
 ⟨⟨zA2 l idf,fun a ha b _=>zEv hl F a ha b⟩,⟨fun a t=>zFe l idf t a,fun a ha b _=>zC7 hl F a ha b⟩⟩
structure zBj(R C r:Nat)(c:Nat->Nat)(A H U V:Nat->Nat->Int):Prop where
 hnf:Hnf C R r c H
 mul:∀a,a<R->∀b,b<C->H a b=zW R fun t=>U a t*A t b
 inv:∀a,a<R->∀b,b<R->zW R (fun t=>U a t*V t b)=idf a b
 back:∀a,a<R->∀b,b<C->A a b=zW R fun t=>V a t*H t b
theorem zBj.sp{R C r:Nat}{c:Nat->Nat}{A H U V:Nat->Nat->Int}(h:zBj R C r c A H U V):zAp R C H A:=⟨V,h.back⟩
theorem zBj.bound{R C r M:Nat}{c:Nat->Nat}{A H U V:Nat->Nat->Int}(h:zBj R C r c A H U V)(hR:R<=4)(hM:1<=M)(hA:leM M R C A):leM (24*(8*M)^4) R C H:=
 zIi (U:=U) (X:=fun t a=>V a t) hR hM h.hnf hA h.back h.inv
theorem zFs{n:Nat}{σ:Nat->Nat}(f:Nat->Int)(hlt:∀k,k<n->σ k<n)(hinj:∀a b,a<n->b<n->σ a=σ b->a=b)(hsur:∀t,t<n->∃k,k<n/\σ k=t):zW n f=zW n fun k=>f (σ k):=by
 have h1:zW n f=zW n fun t=>zW n fun k=>if σ k=t then f t else 0:=zE fun t ht=>by
  obtain⟨k,hk,e⟩:=hsur t ht;rw[zAC (c:=k) hk (fun i hi hne=>if_neg fun e2=>hne (hinj i k hi hk (e2.trans e.symm))),if_pos e]
 rw[h1,yO];refine zE fun k hk=>?_
 rw[zAC (c:=σ k) (hlt k hk) (fun i hi hne=>if_neg fun e=>hne e.symm),if_pos rfl]
theorem zBj.sp'{R C r:Nat}{c:Nat->Nat}{A H U V:Nat->Nat->Int}(h:zBj R C r c A H U V):zAp R C A H:=⟨U,h.mul⟩
theorem zKV{n C:Nat}{F:Nat->Nat->Int}{L:List (Nat × Nat)}(hz:∀a,a<n->(∀k,k<L.length->(L.getD k (0,0)).1≠a)->lead C F a<0){a:Nat}(ha:a<n):a∈zE6 n C F L:=by
 by_cases hm:a∈L.map (·.1)
 ·exact List.mem_append.2 (.inl hm)
 ·refine List.mem_append.2 (.inr ?_)
  simp only[List.mem_filter,List.mem_range,decide_eq_true_eq];refine⟨ha,hz a ha fun k hk e=>hm ?_⟩;rw[<-e,xgb,xga hk];exact List.mem_map.2 ⟨_,List.getElem_mem hk,rfl⟩
def zBw(n C:Nat)(F:Nat->Nat->Int)(L:List (Nat × Nat))(a:Nat):Nat:=(zE6 n C F L).getD a 0
theorem zCE{n C:Nat}{F:Nat->Nat->Int}{L:List (Nat × Nat)}{k:Nat}(hk:k<L.length):zBw n C F L k=yK L k:=by
 unfold zBw zE6 yK;rw[xgb,List.getElem?_append_left (by simpa using hk),List.getElem?_map,xga hk,xgb,xga hk];rfl
theorem zI9{n C:Nat}{F:Nat->Nat->Int}{L:List (Nat × Nat)}{k:Nat}(h1:L.length<=k)(h2:k<(zE6 n C F L).length):lead C F (zBw n C F L k)<0:=by
 unfold zBw;have e:(zE6 n C F L)[k]?=((List.range n).filter fun i=>decide (lead C F i<0))[k-L.length]?:=by
  unfold zE6;rw[List.getElem?_append_right (by simpa using h1)];simp
 rw[xgb,xga h2];rw[xga h2]at e;have:=xgd e.symm;simp only[List.mem_filter,decide_eq_true_eq]at this;exact this.2
theorem zEi{R C Ct M0 g:Nat}{A:Nat->Nat->Int}{y:Bst}{L:List (Nat × Nat)}(h:JC R C Ct M0 ⟨A,idf,idf⟩ R g y L)(hred:zIE (fun _ _=>True) L.length (zDH L) (vw (yK L) y.s))(hlen:(zE6 R C y.s L).length=R):
  zBj R C L.length (zDH L) A (fun a b=>y.s (zBw R C y.s L a) b) (fun a b=>y.t (zBw R C y.s L a) b) (fun a b=>y.i (zBw R C y.s L b) a):=by
 obtain⟨l,hl,hy⟩:=h.ops;rw[zI7]at hy;have hs:y.s=zA2 l A:=by rw[hy]
 have ht:y.t=zA2 l idf:=by rw[hy]
 have hi:y.i=zFe l idf:=by rw[hy]
 have hlok:=h.lok (xgf _);have hz:∀a,a<R->(∀k,k<L.length->(L.getD k (0,0)).1≠a)->lead C y.s a<0:=fun a ha hn=>by
  rw[zC5 (h.zero a ha hn)];decide
 have olt:∀a,a<R->zBw R C y.s L a<R:=fun a ha=>by
  unfold zBw;rw[xgb,xga oM];exact zEw hlok _ (List.getElem_mem _)
 have oinj:∀a b,a<R->b<R->zBw R C y.s L a=zBw R C y.s L b->a=b:=fun a b ha hb e=>by
  unfold zBw at e;rw[xgb,xga oM,xgb,xga oM]at e;exact(List.getElem_inj (h₀:=by omega) (h₁:=by omega) (zCc hlok)).1 e
 have osur:∀t,t<R->∃a,a<R/\zBw R C y.s L a=t:=fun t ht=>by
  obtain⟨a,ha,e⟩:=List.getElem_of_mem (zKV hz ht);refine⟨a,by omega,?_⟩;unfold zBw;rw[xgb,xga ha];exact e
 refine⟨⟨Nat.le_trans h.len (xgf _),⟨h.ech.lt,fun k hk=>?_,fun k hk t ht=>?_,h.ech.inc⟩,fun i j hij hj _=>?_,fun a h1 h2 t ht=>?_⟩,fun a ha b hb=>?_,fun a ha b hb=>?_,?_⟩
 ·show 0<y.s (zBw R C y.s L k) (zDH L k)
  rw[zCE hk];exact h.ech.pos k hk
 ·show y.s (zBw R C y.s L k) t=0
  rw[zCE hk];exact h.ech.zero k hk t ht
 ·show 0<=y.s (zBw R C y.s L i) (zDH L j)/\y.s (zBw R C y.s L i) (zDH L j)<y.s (zBw R C y.s L j) (zDH L j)
  rw[zCE oM,zCE hj];exact hred i j hij hj trivial
 ·exact zC4 (zI9 h1 oM) t ht
 ·show y.s (zBw R C y.s L a) b=zW R fun t=>y.t (zBw R C y.s L a) t*A t b
  rw[ht];conv=>lhs;rw[show y.s (zBw R C y.s L a) b=zA2 l A (zBw R C y.s L a) b from by rw[<-hs]]
  exact zEv hl A _ (olt a ha) b
 ·show zW R (fun t=>y.t (zBw R C y.s L a) t*y.i (zBw R C y.s L b) t)=idf a b
  rw[ht,hi];have:=zGR hl (P:=idf) (Q:=idf) (C:=R) (fun a ha b hb=>zGF R a ha b hb) _ (olt a ha) _ (olt b hb);unfold dot at this;rw[this];unfold idf;by_cases e:a=b
  ·rw[if_pos e,if_pos (by rw[e])]
  ·rw[if_neg e,if_neg (fun e2=>e (oinj a b ha hb e2))]
 ·intro a ha b hb
  show A a b=zW R fun t=>y.i (zBw R C y.s L t) a*y.s (zBw R C y.s L t) b
  rw[<-zFs (σ:=zBw R C y.s L) (fun t=>y.i t a*y.s t b) olt oinj osur,hi,hs];exact zC7 hl A a ha b
theorem zEq{os:List Nat}{n C:Nat}{F:Nat->Nat->Int}(h:os.length=n):(os.map fun i=>zU C (F i))=zS n C fun a b=>F (os.getD a 0) b:=by
 refine List.ext_getElem (by simp[zS,h]) fun i h1 h2=>?_
 simp only[List.length_map]at h1;simp only[zS,zU,List.getElem_map,List.getElem_range];rw[xgb,xga h1];rfl
theorem zMG:∃n:Nat,n=B32^zHK:=⟨_,rfl⟩
noncomputable def BD:Nat:=zMG.choose
theorem zIB:BD=B32^zHK:=zMG.choose_spec
theorem zIA:BSd BD:=⟨fun z hz=>by rw[zIB]at hz;exact⟨hz⟩⟩
theorem zKu:∃n:Nat,n=2^40:=⟨_,rfl⟩
noncomputable def E40:Nat:=zKu.choose
theorem zKt:E40=2^40:=zKu.choose_spec
theorem zIC:E40=1099511627776:=by rw[zKt]
theorem zJ2(M:Nat):2*gk 40 M=(2*M)^E40:=by rw[zKt];exact zK2 40 M
theorem zMU{e M0 k:Nat}(hk:k<=40)(hM1:1<=M0)(hM:2*M0<=2^e):gk k M0<2^(e*E40):=by
 have h1:=zBM hM1 hk;have h2:=zJ2 M0;have h3:(2*M0)^E40<=(2^e)^E40:=Nat.pow_le_pow_left hM _;rw[<-Nat.pow_mul]at h3;have h4:=zDP 40 hM1;omega
theorem zBe{a D:Nat}(h:a<=32*D):2^a<=B32^D:=by
 rw[show B32=2^32 from rfl,<-Nat.pow_mul];exact Nat.pow_le_pow_right oM h
theorem zMS{e M0 k:Nat}(hk:k<=40)(hM1:1<=M0)(hM:2*M0<=2^e)(he:e<=31):gk k M0<BD:=by
 rw[zIB];refine Nat.lt_of_lt_of_le (zMU hk hM1 hM) (zBe ?_);rw[zAM];have:e*E40<=31*E40:=Nat.mul_le_mul_right _ he;rw[zIC]at this ⊢
 omega
theorem zIk(n M:Nat)(h:1<=M):leM M n n idf:=fun a _ b _=>by
 unfold idf;split<;>simp<;>omega
theorem zDQ{M0 e:Nat}(hM1:1<=M0)(hM0:2*M0<=2^e)(he:e<=31)(v:Value)(M:List (List Int))(R C:Nat)(w:World)(h:yG w v R C M)(hF:yM R C M)(hR:R<=4)(hC:C<=4)(hA:leM M0 R C (ent M)):
  Calls Tryz.prog 41 #[v] w fun e w'=>∃v r c H U V,e= .returned v/\zBj R C r c (ent M) H U V/\leM (24*(8*M0)^4) R C H/\leM (gk 40 M0) R R U/\leM (gk 40 M0) R R V/\zBq w' v R C (zS R C H) (zS R R U) (zS R R V)/\Below w.heap.size w w':=by
 have hB:=zIA;have hg:gk (10*R) M0<BD:=zMS oM hM1 hM0 he;have hB0:leB M0 R C R ⟨ent M,idf,idf⟩:=⟨hA,zIk R M0 hM1,zIk R M0 hM1⟩;have hE:=zIY (x0:=⟨ent M,idf,idf⟩) (Ct:=R) hR hC hM1 hg;have hMB:M0<BD:=Nat.lt_of_le_of_lt (zEh _ hM1) hg;refine(zIg hB v M R C w h hF oM oM (hA.ok hMB) (Smd.one (z:=1) dE).sm hE (zGq hB0 hM1) (fun y L hJ a ha hn=>?_)).mono ?_
 ·rw[zC5 (hJ.2.1.zero a ha hn)];decide
 ·rintro ee w' ⟨v,y,L,rfl,hJ,hl,hv,hb⟩
  have hbd:=hJ.2.1.bd;have hg40:gk (ix R C R y) M0<=gk 40 M0:=zBM hM1 (Nat.le_trans (zMY (xgf _) hC) oM);have olt:∀a,a<R->zBw R C y.s L a<R:=fun a ha=>by
   unfold zBw;rw[xgb,xga oM];exact zEw (hJ.2.1.lok (xgf _)) _ (List.getElem_mem _)
  refine⟨v,_,_,_,_,_,rfl,zEi hJ.2.1 (hJ.2.2 rfl) hl,(zEi hJ.2.1 (hJ.2.2 rfl) hl).bound hR hM1 hA,fun a ha b hb=>Nat.le_trans (hbd.2.1 _ (olt a ha) b hb) hg40,fun a ha b hb=>Nat.le_trans (hbd.2.2 _ (olt b hb) a ha) hg40,?_,hb⟩;rw[zEq hl,zEq hl]at hv;exact hv
end Go.Proofs.YtgnmdddaiefooaaGreat
