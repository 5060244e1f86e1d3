/- The Hermite normal form is unique. Plain Lean. Hermite normal forms: how large, square ones, and what determinants tell. Plain Lean. smith's run (the mirror) ends within bounds; what its matrices are to each other. Plain Lean. hermite.Form of small matrices: a Hermite normal form, with its transforms. -/
import Derived.Test.YtgnmdddaiefooaaGreatR31
import Derived.Test.YtgnmdddaiefooaaGreatR34
set_option linter.unusedVariables false
set_option linter.unusedSimpArgs false
set_option linter.unusedSectionVars false
set_option maxHeartbeats 16000000
set_option maxRecDepth 100000
namespace Go.Proofs.YtgnmdddaiefooaaGreat
open Go.RowKit
theorem zD2{r:Nat}{x:Nat->Int}(h:∃t,t<r/\x t≠0):∃t,t<r/\x t≠0/\∀s,s<t->x s=0:=by
 obtain⟨t,ht⟩:=h;induction t using Nat.strongRecOn with
 | ind t ih=>
  by_cases he:∃s,s<t/\x s≠0
  ·obtain⟨s,h1,h2⟩:=he
   exact ih s h1 ⟨by omega,h2⟩
  ·exact⟨t,ht.1,ht.2,fun s hs=>Classical.byContradiction fun hn=>he ⟨s,hs,hn⟩⟩
theorem zFj{C r:Nat}{c:Nat->Nat}{H:Nat->Nat->Int}{x:Nat->Int}(hE:Ech C r c H){t:Nat}(ht:t<r)(hx:∀s,s<t->x s=0):(zI r fun s=>x s*H s (c t))=x t*H t (c t):=
 qU ht fun s hs hne=>by
  rcases Nat.lt_or_ge s t with h|h
  ·rw[hx s h,Int.zero_mul]
  ·rw[hE.zero s hs _ (hE.inc t s oM hs),Int.mul_zero]
theorem zHI{C r:Nat}{c:Nat->Nat}{H:Nat->Nat->Int}{x:Nat->Int}(hE:Ech C r c H){t b:Nat}(ht:t<r)(hx:∀s,s<t->x s=0)(hb:b<c t):(zI r fun s=>x s*H s b)=0:=
 yC fun s hs=>by
  rcases Nat.lt_or_ge s t with h|h
  ·rw[hx s h,Int.zero_mul]
  ·have:b<c s:=by
    rcases Nat.lt_or_ge t s with h2|h2
    ·have:=hE.inc t s h2 hs;omega
    ·obtain rfl:s=t:=by omega
     exact hb
   rw[hE.zero s hs _ this,Int.mul_zero]
theorem zDF{C r:Nat}{c:Nat->Nat}{H:Nat->Nat->Int}{v x:Nat->Int}(hE:Ech C r c H)(hv:∀b,b<C->v b=zI r fun t=>x t*H t b){d:Nat}(hd:d<C)(h0:v d≠0)(hz:∀b,b<d->v b=0):
  ∃j,j<r/\c j=d/\v d=x j*H j (c j):=by
 have hex:∃t,t<r/\x t≠0:=Classical.byContradiction fun hn=>h0 (by
  rw[hv d hd];exact yC fun t ht=>by
   have:x t=0:=Classical.byContradiction fun h=>hn ⟨t,ht,h⟩
   rw[this,Int.zero_mul])
 obtain⟨t,ht,hx,hbef⟩:=zD2 hex;have h1:=zFj hE ht hbef;have h2:v (c t)=x t*H t (c t):=by rw[hv _ (hE.lt t ht),h1]
 have h3:v (c t)≠0:=by
  rw[h2];exact Int.mul_ne_zero hx (by have:=hE.pos t ht;omega)
 have h4:c t=d:=by
  rcases Nat.lt_trichotomy (c t) d with h|h|h
  ·exact absurd (hz _ h) h3
  ·exact h
  ·exact absurd (by rw[hv d hd];exact zHI hE ht hbef h) h0
 exact⟨t,ht,h4,by rw[<-h4];exact h2⟩
def zAq(n C:Nat)(H G:Nat->Nat->Int):Prop:=∃X:Nat->Nat->Int,∀a,a<n->∀b,b<C->G a b=zI n fun t=>X a t*H t b
theorem Hnf.span{n C r:Nat}{c:Nat->Nat}{H G:Nat->Nat->Int}(hH:Hnf C n r c H)(h:zAq n C H G):∃X:Nat->Nat->Int,∀a,a<n->∀b,b<C->G a b=zI r fun t=>X a t*H t b:=by
 obtain⟨X,e⟩:=h;refine⟨X,fun a ha b hb=>?_⟩;rw[e a ha b hb];exact zBB hH.le fun t h2 h3=>by rw[hH.zero t h2 h3 b hb,Int.mul_zero]
theorem zII{n C r r':Nat}{c c':Nat->Nat}{H G:Nat->Nat->Int}(hH:Hnf C n r c H)(hG:Hnf C n r' c' G)(h1:zAq n C H G)(h2:zAq n C G H):∀k,k<r->k<r'/\c' k=c k:=by
 obtain⟨X,hX⟩:=hH.span h1;obtain⟨Y,hY⟩:=hG.span h2;have cG:∀k,k<r'->∃j,j<r/\c j=c' k:=fun k hk=>by
  obtain⟨j,a,b,-⟩:=zDF hH.ech (v:=G k) (x:=X k) (fun b hb=>hX k (Nat.lt_of_lt_of_le hk hG.le) b hb) (hG.ech.lt k hk) (by have:=hG.ech.pos k hk;omega) (hG.ech.zero k hk);exact⟨j,a,b⟩
 have cH:∀k,k<r->∃j,j<r'/\c' j=c k:=fun k hk=>by
  obtain⟨j,a,b,-⟩:=zDF hG.ech (v:=H k) (x:=Y k) (fun b hb=>hY k (Nat.lt_of_lt_of_le hk hH.le) b hb) (hH.ech.lt k hk) (by have:=hH.ech.pos k hk;omega) (hH.ech.zero k hk);exact⟨j,a,b⟩
 intro k;induction k using Nat.strongRecOn with
 | ind k ih=>
  intro hk;obtain⟨j,hj,ej⟩:=cH k hk;have hkj:k<=j:=by
   refine Nat.le_of_not_lt fun h=>?_
   have e1:=(ih j h oM).2;have:=hH.ech.inc j k h hk;omega
  have hkr:k<r':=by omega
  refine⟨hkr,?_⟩;obtain⟨i,hi,ei⟩:=cG k hkr;have h3:c' k<=c' j:=by
   rcases Nat.lt_or_ge k j with h|h
   ·exact Nat.le_of_lt (hG.ech.inc k j h hj)
   ·obtain rfl:k=j:=by omega
    exact xgf _
  have h4:k<=i:=by
   refine Nat.le_of_not_lt fun h=>?_
   have e1:=(ih i h oM).2;have:=hG.ech.inc i k h hkr;omega
  have h5:c k<=c i:=by
   rcases Nat.lt_or_ge k i with h|h
   ·exact Nat.le_of_lt (hH.ech.inc k i h hi)
   ·obtain rfl:k=i:=by omega
    exact xgf _
  omega
theorem zDQ{n C r r':Nat}{c c':Nat->Nat}{H G:Nat->Nat->Int}(hH:Hnf C n r c H)(hG:Hnf C n r' c' G)(h1:zAq n C H G)(h2:zAq n C G H):
  r=r'/\(∀k,k<r->c' k=c k)/\∀a,a<n->∀b,b<C->G a b=H a b:=by
 have k1:=zII hH hG h1 h2;have k2:=zII hG hH h2 h1;have hr:r=r':=by
  have a1:r<=r':=by
   rcases Nat.eq_zero_or_pos r with h|h
   ·omega
   ·have:=(k1 (r-1) oM).1;omega
  have a2:r'<=r:=by
   rcases Nat.eq_zero_or_pos r' with h|h
   ·omega
   ·have:=(k2 (r'-1) oM).1;omega
  omega
 subst hr;have hc:∀k,k<r->c' k=c k:=fun k hk=>(k1 k hk).2
 obtain⟨X,hX⟩:=hH.span h1;obtain⟨Y,hY⟩:=hG.span h2;have hp:∀k,k<r->G k (c k)=H k (c k):=fun k hk=>by
  obtain⟨j,j1,j2,j3⟩:=zDF hH.ech (v:=G k) (x:=X k) (fun b hb=>hX k (Nat.lt_of_lt_of_le hk hG.le) b hb) (hG.ech.lt k hk) (by have:=hG.ech.pos k hk;omega) (hG.ech.zero k hk);obtain⟨i,i1,i2,i3⟩:=zDF hG.ech (v:=H k) (x:=Y k) (fun b hb=>hY k (Nat.lt_of_lt_of_le hk hH.le) b hb) (hH.ech.lt k hk) (by have:=hH.ech.pos k hk;omega) (hH.ech.zero k hk);have ej:j=k:=by
   rw[hc k hk]at j2;rcases Nat.lt_trichotomy j k with h|h|h
   ·have:=hH.ech.inc j k h hk;omega
   ·exact h
   ·have:=hH.ech.inc k j h j1;omega
  have ei:i=k:=by
   rw[hc i i1]at i2;rcases Nat.lt_trichotomy i k with h|h|h
   ·have:=hH.ech.inc i k h hk;omega
   ·exact h
   ·have:=hH.ech.inc k i h i1;omega
  subst ej;subst ei;rw[hc _ hk]at j3 i3;exact Int.dvd_antisymm (by have:=hG.ech.pos _ hk;rw[hc _ hk]at this;omega) (by have:=hH.ech.pos _ hk;omega) ⟨Y _ _,by rw[i3,Int.mul_comm]⟩ ⟨X _ _,by rw[j3,Int.mul_comm]⟩
 refine⟨rfl,hc,fun a ha b hb=>?_⟩;rcases Nat.lt_or_ge a r with har|har
 ·have hD:∀b,b<C->G a b-H a b=zI r fun t=>(X a t-(if t=a then 1 else 0))*H t b:=fun b hb=>by
   have e1:(zI r fun t=>(if t=a then(1:Int)else 0)*H t b)=H a b:=by
    rw[qU har (fun i _ hne=>by rw[if_neg hne,Int.zero_mul]),if_pos rfl,Int.one_mul]
   have e2:=zIk r 1 (-1) (fun t=>X a t*H t b) (fun t=>(if t=a then(1:Int)else 0)*H t b);have e4:(zI r fun t=>(X a t-(if t=a then 1 else 0))*H t b)=zI r fun t=>1*(X a t*H t b)+(-1)*((if t=a then(1:Int)else 0)*H t b):=zD fun t _=>by
    rw[Int.sub_mul];omega
   rw[hX a ha b hb,e4,e2,e1];omega
  have hz:∀t,t<r->X a t-(if t=a then 1 else 0)=0:=Classical.byContradiction fun hn=>by
   have hex:∃t,t<r/\X a t-(if t=a then 1 else 0)≠0:=Classical.byContradiction fun h=>hn fun t ht=>Classical.byContradiction fun h2=>h ⟨t,ht,h2⟩
   obtain⟨t,ht,hx,hbef⟩:=zD2 hex;have e1:=zFj hH.ech ht hbef;rw[<-hD _ (hH.ech.lt t ht)]at e1;have hpos:=hH.ech.pos t ht;have hlow:∀y:Int,y≠0->H t (c t)<=(y*H t (c t)).natAbs:=fun y hy=>by
    rw[Int.natAbs_mul];have:1<=y.natAbs:=by omega
    have h5:=Nat.mul_le_mul_right (H t (c t)).natAbs this;omega
   have h6:=hlow _ hx;rw[<-e1]at h6;rcases Nat.lt_trichotomy t a with h|h|h
   ·have f1:=hH.ech.zero a har (c t) (hH.ech.inc t a h har)
    have f2:=hG.ech.zero a har (c t) (by rw[hc a har];exact hH.ech.inc t a h har);rw[f1,f2]at h6;simp at h6;omega
   ·subst h
    rw[hp t ht]at h6;simp at h6;omega
   ·obtain⟨f1,f2⟩:=hH.red a t h ht trivial
    obtain⟨f3,f4⟩:=hG.red a t h ht trivial;rw[hc t ht,hp t ht]at f4;rw[hc t ht]at f3;omega
  have e4:=hD b hb;rw[yC (fun t ht=>by rw[hz t ht,Int.zero_mul])]at e4;omega
 ·rw[hG.zero a har ha b hb,hH.zero a har ha b hb]
theorem zHJ{k R:Nat}{F:Nat->Nat->Int}{i:Nat}{c:Nat->Int}{v:Nat->Nat->Int}(h:i<k):
  det k (zAg F i fun a=>zI R fun t=>c t*v a t)=zI R fun t=>c t*det k (zAg F i fun a=>v a t):=by
 have:=zCc (k:=k) (R:=R) (F:=trp F) (i:=i) (c:=c) (v:=fun t a=>v a t) h;rw[<-jM]at this;refine this.trans (zD fun t ht=>?_);rw[<-jM];rfl
theorem zFk(k:Nat):det k idf=1:=by
 rw[zBJ (fun a _ b _ h=>by unfold idf;rw[if_neg oM])];induction k with
 |zero=>rfl
 |succ k ih=>unfold yY;rw[ih];simp[idf]
theorem zNh{k:Nat}(hk:k<=4):zHQ k<=24:=by
 have:∀k,k<=4->zHQ k<=24:=by decide
 exact this k hk
theorem zJ9{k h:Nat}{F:Nat->Nat->Int}(hk:k<=4)(h1:1<=h)(hF:∀a,a<k->∀b,b<k->(F a b).natAbs<=h):(det k F).natAbs<=24*h^4:=
 Nat.le_trans (zIv hF) (Nat.mul_le_mul (zNh hk) (zDU h1 hk))
theorem zIF{r R:Nat}{P V:Nat->Nat->Int}(h:∀a,a<r->∀b,b<r->zI R (fun t=>P a t*V t b)=idf a b):∃σ:Nat->Nat,(∀a,a<r->σ a<R)/\det r (fun a b=>V (σ a) b)≠0:=by
 refine Classical.byContradiction fun hn=>?_
 have h1:(0:Int)∣det r fun a b=>zI R fun t=>P a t*V t b:=jA fun σ hσ=>by
  have:det r (fun a b=>V (σ a) b)=0:=Classical.byContradiction fun h0=>hn ⟨σ,hσ,h0⟩
  rw[this];exact Int.dvd_refl 0
 rw[qS (G:=idf) h,zFk]at h1;have:=Int.zero_dvd.1 h1;omega
theorem zFM{R C r h:Nat}{c σ:Nat->Nat}{A H X:Nat->Nat->Int}(hr4:r<=4)(h1:1<=h)(hE:Ech C r c H)(hred:zGL (fun _ _=>True) r c H)(hA:leM h R C A)(hback2:∀a,a<R->∀b,b<C->A a b=zI r fun t=>X t a*H t b)
  (hσ:∀a,a<r->σ a<R) (hdet:det r (fun a b=>X b (σ a))≠0):leM (24*(8*h)^4) r C H:=by
 have hpivz:∀j,j<r->∀t,j<t->t<r->H t (c j)=0:=fun j hj t h2 h3=>hE.zero t h3 _ (hE.inc j t h2 h3)
 have hV:∀j,j<r->∀a,a<R->(X j a).natAbs<=h*2^j:=by
  intro j;induction j using Nat.strongRecOn with
  | ind j ih=>
   intro hj a ha;have e:=hback2 a ha (c j) (hE.lt j hj);have hp:=hE.pos j hj;rw[zBB (n:=j+1) oM (fun t h2 h3=>by rw[hpivz j hj t oM h3,Int.mul_zero])]at e;have hs:zI (j+1) (fun t=>X t a*H t (c j))=zI j (fun t=>X t a*H t (c j))+X j a*H j (c j):=rfl;rw[hs]at e;obtain⟨p,hpp⟩:∃p:Nat,H j (c j)=(p:Int):=⟨(H j (c j)).toNat,by omega⟩;have hsum:∀m,m<=j->(zI m (fun t=>X t a*H t (c j))).natAbs<=(h*2^m-h)*p:=by
    intro m;induction m with
    |zero=>intro _;simp[zI]
    | succ m ihm=>
     intro hm;have g1:=ihm oM;have g2:=ih m oM oM a ha;have g3:=hred m j oM hj trivial;have g4:(H m (c j)).natAbs<=p:=by omega
     have g5:(X m a*H m (c j)).natAbs<=h*2^m*p:=by rw[Int.natAbs_mul];exact Nat.mul_le_mul g2 g4
     have g6:(zI (m+1) (fun t=>X t a*H t (c j))).natAbs<=(zI m (fun t=>X t a*H t (c j))).natAbs+(X m a*H m (c j)).natAbs:=by
      show(zI m (fun t=>X t a*H t (c j))+X m a*H m (c j)).natAbs<=_;omega
     have g7:(h*2^m-h)*p+h*2^m*p=(h*2^(m+1)-h)*p:=by
      rw[<-Nat.add_mul];congr 1;have:h<=h*2^m:=Nat.le_mul_of_pos_right _ (Nat.pow_pos oM);rw[Nat.pow_succ,<-Nat.mul_assoc];omega
     omega
   have g1:=hsum j (xgf _);have g2:=hA a ha (c j) (hE.lt j hj);have g3:(X j a*H j (c j)).natAbs<=h+(h*2^j-h)*p:=by omega
   rw[Int.natAbs_mul,hpp,Int.natAbs_natCast]at g3;have g4:h<=h*p:=Nat.le_mul_of_pos_right _ oM;have g5:h*p+(h*2^j-h)*p=h*2^j*p:=by
    rw[<-Nat.add_mul];congr 1;have:h<=h*2^j:=Nat.le_mul_of_pos_right _ (Nat.pow_pos oM);omega
   have g6:(X j a).natAbs*p<=h*2^j*p:=by omega
   exact Nat.le_of_mul_le_mul_right g6 oM
 have hV8:∀j,j<r->∀a,a<R->(X j a).natAbs<=8*h:=fun j hj a ha=>by
  have g1:=hV j hj a ha;have g2:2^j<=2^3:=Nat.pow_le_pow_right oM oM;have g3:h*2^j<=h*2^3:=Nat.mul_le_mul_left _ g2;omega
 intro i hir b hb;have e1:det r (zAg (fun a b=>X b (σ a)) i fun a=>A (σ a) b)=H i b*det r (fun a b=>X b (σ a)):=by
  have e2:det r (zAg (fun a b=>X b (σ a)) i fun a=>A (σ a) b)=det r (zAg (fun a b=>X b (σ a)) i fun a=>zI r fun t=>H t b*X t (σ a)):=qS fun a ha b' hb'=>by
   unfold zAg;split
   ·dsimp only
    rw[hback2 _ (hσ a ha) b hb];exact zD fun t ht=>Int.mul_comm _ _
   ·rfl
  rw[e2,zHJ (v:=fun a t=>X t (σ a)) hir,qU (c:=i) hir]
  ·rw[zEs (fun a b=>X b (σ a)) i]
  ·intro t ht hne
   have:det r (zAg (fun a b=>X b (σ a)) i fun a=>X t (σ a))=0:=by
    rcases Nat.lt_or_ge t i with h2|h2
    ·exact zDM h2 hir fun a=>by unfold zAg;rw[if_pos rfl,if_neg oM]
    ·exact zDM (c:=i) (d:=t) oM ht fun a=>by unfold zAg;rw[if_pos rfl,if_neg oM]
   rw[this,Int.mul_zero]
 have e3:(det r (zAg (fun a b=>X b (σ a)) i fun a=>A (σ a) b)).natAbs<=24*(8*h)^4:=zJ9 hr4 oM fun a ha b' hb'=>by
  unfold zAg;split
  ·have:=hA _ (hσ a ha) b hb
   dsimp only;omega
  ·exact hV8 b' hb' _ (hσ a ha)
 rw[e1,Int.natAbs_mul]at e3;exact Nat.le_trans (Nat.le_mul_of_pos_right _ oM) e3
theorem zKP{R C r h:Nat}{c:Nat->Nat}{A H U X:Nat->Nat->Int}(hR:R<=4)(h1:1<=h)(hH:Hnf C R r c H)(hA:leM h R C A)(hback:∀a,a<R->∀b,b<C->A a b=zI R fun t=>X t a*H t b)
  (huv:∀a,a<R->∀b,b<R->dot R U X a b=idf a b):leM (24*(8*h)^4) R C H:=by
 obtain⟨σ,hσ,hdet⟩:=zIF (r:=r) (R:=R) (P:=U) (V:=fun t b=>X b t) (fun a ha b hb=>huv a (by have:=hH.le;omega) b (by have:=hH.le;omega));have hb:=zFM (Nat.le_trans hH.le hR) h1 hH.ech hH.red hA (fun a ha b hb=>by
  rw[hback a ha b hb];exact zBB hH.le fun t h2 h3=>by rw[hH.zero t h2 h3 b hb,Int.mul_zero]) hσ hdet
 intro i hi b hb';rcases Nat.lt_or_ge i r with hir|hir
 ·exact hb i hir b hb'
 ·rw[hH.zero i hir hi b hb']
  exact Nat.zero_le _
theorem zI1{n m r r':Nat}{c σ:Nat->Nat}{F H X:Nat->Nat->Int}(hH:Hnf m n r c H)(hback:∀a,a<n->∀b,b<m->F a b=zI n fun t=>X t a*H t b)(hcol:∀a,a<n->∀b,r'<=b->b<m->H a b=0)(hr':r'<=m)
  (hσ:∀a,a<r'->σ a<n) (hdet:det r' (fun a b=>F (σ a) b)≠0):r=r'/\∀k,k<r->c k=k:=by
 have hc:∀k,k<r->c k<r':=fun k hk=>by
  rcases Nat.lt_or_ge (c k) r' with h|h
  ·exact h
  ·have h1:=hcol k (by have:=hH.le;omega) (c k) h (hH.ech.lt k hk)
   have h2:=hH.ech.pos k hk;omega
 have hck:∀k,k<r->k<=c k:=by
  intro k;induction k with
  |zero=>intro _;omega
  |succ k ih=>
   intro hk;have h1:=ih oM;have h2:=hH.ech.inc k (k+1) oM hk;omega
 have hle:r<=r':=by
  rcases Nat.eq_zero_or_pos r with h|h
  ·omega
  ·have h1:=hck (r-1) oM
   have h2:=hc (r-1) oM;omega
 have hge:r'<=r:=by
  rcases Nat.lt_or_ge r r' with h|h
  ·have h1:(0:Int)∣det r' fun a b=>zI n fun t=>X t (σ a)*H t b:=jA (P:=fun a t=>X t (σ a)) (F:=H) fun τ hτ=>by
    refine zAd (R:=n) (F:=H) (fun τ hτ hi=>?_) τ hτ;have h2:=hi.le (r'-1) oM;rw[zAE (c:=r'-1) oM fun b hb=>hH.zero _ oM (hτ _ oM) b oM];exact Int.dvd_refl 0
   rw[qS (G:=fun a b=>F (σ a) b) fun a ha b hb=>(hback _ (hσ a ha) b oM).symm]at h1;exact absurd (Int.zero_dvd.1 h1) hdet
  ·exact h
 refine⟨by omega,fun k hk=>?_⟩;have hup:∀d k,k+d+1=r->c k+d<r':=by
  intro d;induction d with
  |zero=>intro k hk;exact hc k oM
  |succ d ih=>
   intro k hk;have h1:=ih (k+1) oM;have h2:=hH.ech.inc k (k+1) oM oM;omega
 have h1:=hup (r-1-k) k oM;have h2:=hck k hk;omega
theorem zOA{r:Nat}{f:Nat->Int}(h:∀i,i<r->0<f i){i:Nat}(hi:i<r):f i<=yY r f:=by
 induction r with
 |zero=>omega
 | succ r ih=>
  have hp:0<yY r f:=zEl fun j hj=>h j oM
  have hl:=h r oM;unfold yY;by_cases e:i=r
  ·rw[e]
   have:1*f r<=yY r f*f r:=Int.mul_le_mul_of_nonneg_right oM oM;omega
  ·have h1:=ih (fun j hj=>h j oM) oM
   have:yY r f*1<=yY r f*f r:=Int.mul_le_mul_of_nonneg_left oM oM;omega
structure Rel(R C:Nat)(A:Nat->Nat->Int)(z:W5):Prop where
 s:∀a,a<R->∀b,b<C->z.s a b=zI R fun s=>z.u a s*zI C fun t=>A s t*z.w b t
 uv:∀a,a<R->∀b,b<R->dot R z.u z.v a b=idf a b
 vu:∀a,a<R->∀b,b<R->cod R z.v z.u a b=idf a b
 wx:∀a,a<C->∀b,b<C->dot C z.w z.x a b=idf a b
 xw:∀a,a<C->∀b,b<C->cod C z.x z.w a b=idf a b
theorem zCA(a b:Nat):idf a b=idf b a:=by unfold idf;split<;>split<;>omega
theorem zDc{n a:Nat}(ha:a<n)(f:Nat->Int):zI n (fun t=>f t*idf t a)=f a:=by
 rw[qU (c:=a) ha]
 ·unfold idf;rw[if_pos rfl,Int.mul_one]
 ·intro t ht hne
  unfold idf;rw[if_neg hne,Int.mul_zero]
theorem zFl(n:Nat):∀a,a<n->∀b,b<n->dot n idf idf a b=idf a b:=fun a ha b hb=>by
 unfold dot;rw[zD (g:=fun t=>idf a t*idf t b) (fun t ht=>by rw[zCA b t]),zDc hb]
theorem zJ1(n:Nat):∀a,a<n->∀b,b<n->cod n idf idf a b=idf a b:=fun a ha b hb=>by
 unfold cod;rw[zD (g:=fun t=>idf a t*idf t b) (fun t ht=>by rw[zCA t a]),zDc hb]
theorem Rel.start(R C:Nat)(A:Nat->Nat->Int):Rel R C A ⟨A,idf,idf,idf,idf⟩:=
 ⟨fun a ha b hb=>by
  show A a b=zI R fun s=>idf a s*zI C fun t=>A s t*idf b t
  rw[<-zEU ha fun s=>zI C fun t=>A s t*idf b t,zD (g:=fun t=>A a t*idf t b) (fun t ht=>by rw[zCA b t]),zDc hb],
 zFl R,zJ1 R,zFl C,zJ1 C⟩
theorem Rel.rows{R C:Nat}{A:Nat->Nat->Int}{z:W5}{l:List Op}(h:Rel R C A z)(hl:qJ R l):Rel R C A ⟨zA1 l z.s,zA1 l z.u,zGF l z.v,z.w,z.x⟩:=
 ⟨fun a ha b hb=>zHg (b:=b) (G:=fun s b=>zI C fun t=>A s t*z.w b t) hl (fun a ha=>h.s a ha b hb) a ha,zF0 hl h.uv,fun a ha b hb=>by
  show cod R (zGF l z.v) (zA1 l z.u) a b=_;rw[zHf hl];exact h.vu a ha b hb,h.wx,h.xw⟩
theorem Rel.cols{R C:Nat}{A:Nat->Nat->Int}{z:W5}{l:List Op}(h:Rel R C A z)(hl:qJ C l):Rel R C A ⟨trF (zA1 l (trF z.s)),z.u,z.v,zA1 l z.w,zGF l z.x⟩:=
 ⟨fun a ha b hb=>by
  have h1:∀b,b<C->trF z.s b a=zI C fun t=>z.w b t*zI R fun s=>z.u a s*A s t:=fun b hb=>by
   show z.s a b=_;rw[h.s a ha b hb];simp only[<-zY];rw[yB];refine zD fun t ht=>zD fun s hs=>?_
   rw[Int.mul_comm (z.w b t),Int.mul_assoc]
  have h2:=zHg (b:=a) (G:=fun t a=>zI R fun s=>z.u a s*A s t) hl h1 b hb;show zA1 l (trF z.s) b a=_;rw[h2];simp only[<-zY];rw[yB];refine zD fun t ht=>zD fun s hs=>?_
  rw[Int.mul_comm (zA1 l z.w b s),Int.mul_assoc],
 h.uv,h.vu,zF0 hl h.wx,fun a ha b hb=>by
  show cod C (zGF l z.x) (zA1 l z.w) a b=_;rw[zHf hl];exact h.xw a ha b hb⟩
theorem Rel.back{R C:Nat}{A:Nat->Nat->Int}{z:W5}(h:Rel R C A z):∀a,a<R->∀b,b<C->A a b=zI R fun s=>z.v s a*zI C fun t=>z.s s t*z.x t b:=by
 intro a ha b hb;have e1:∀s,s<R->zI C (fun t=>z.s s t*z.x t b)=zI R fun s'=>z.u s s'*A s' b:=fun s hs=>by
  have g1:∀t,t<C->z.s s t*z.x t b=zI R fun s'=>z.u s s'*(zI C fun t'=>A s' t'*(z.w t t'*z.x t b)):=fun t ht=>by
   rw[h.s s hs t ht,<-jG];refine zD fun s' hs'=>?_
   rw[Int.mul_assoc,<-jG];congr 1;exact zD fun t' ht'=>Int.mul_assoc _ _ _
  rw[zD g1,yB];refine zD fun s' hs'=>?_
  rw[zY,yB];congr 1;have g2:∀t',t'<C->zI C (fun t=>A s' t'*(z.w t t'*z.x t b))=A s' t'*idf t' b:=fun t' ht'=>by
   rw[zY];have:=h.xw b hb t' ht';unfold cod at this;rw[zCA t' b,<-this];congr 1;exact zD fun t ht=>Int.mul_comm _ _
  rw[zD g2,zDc hb fun t'=>A s' t']
 rw[zD (fun s hs=>by rw[e1 s hs])];have g3:∀s,s<R->z.v s a*zI R (fun s'=>z.u s s'*A s' b)=zI R fun s'=>(z.v s a*z.u s s')*A s' b:=fun s hs=>by
  rw[<-zY];exact zD fun s' hs'=>(Int.mul_assoc _ _ _).symm
 rw[zD g3,yB];have g4:∀s',s'<R->zI R (fun s=>(z.v s a*z.u s s')*A s' b)=idf a s'*A s' b:=fun s' hs'=>by
  rw[jG];congr 1;exact h.vu a ha s' hs'
 rw[zD g4];exact zEU ha fun s'=>A s' b
structure leW(M R C Cu Cw:Nat)(z:W5):Prop where
 s:leM M R C z.s
 u:leM M R Cu z.u
 v:leM M R Cu z.v
 w:leM M C Cw z.w
 x:leM M C Cw z.x
theorem leW.mono{M M' R C Cu Cw:Nat}{z:W5}(h:leW M R C Cu Cw z)(hM:M<=M'):leW M' R C Cu Cw z:=⟨h.s.mono hM,h.u.mono hM,h.v.mono hM,h.w.mono hM,h.x.mono hM⟩
theorem zKZ{M R C:Nat}{F:Nat->Nat->Int}(h:leM M R C F):leM M C R (trF F):=fun a ha b hb=>h b hb a ha
def rnd(z:W5)(l1 l2:List Op):W5:=⟨trF (zA1 l2 (trF (zA1 l1 z.s))),zA1 l1 z.u,zGF l1 z.v,zA1 l2 z.w,zGF l2 z.x⟩
theorem Rel.rnd{R C:Nat}{A:Nat->Nat->Int}{z:W5}{l1 l2:List Op}(h:Rel R C A z)(h1:qJ R l1)(h2:qJ C l2):Rel R C A (rnd z l1 l2):=(h.rows h1).cols h2
def GE(T:Nat):Nat:=(2*T)^KE
structure Low(R C r:Nat)(F:Nat->Nat->Int):Prop where
 hnf:Hnf R C r (fun k=>k) (trF F)
 row:∀a,r<=a->a<R->∀b,b<C->F a b=0
 le:r<=R
theorem zKp{n b:Nat}{l:List Op}(hl:qJ n l):∀{F:Nat->Nat->Int},(∀a,a<n->F a b=0)->∀a,a<n->zA1 l F a b=0:=by
 intro F h a ha;rw[zDY hl F a ha b];exact yC fun t ht=>by rw[h t ht,Int.mul_zero]
theorem Hnf.congr_c{C n r:Nat}{c:Nat->Nat}{F:Nat->Nat->Int}(h:Hnf C n r c F)(he:∀k,k<r->c k=k):Hnf C n r (fun k=>k) F:=
 ⟨h.le,⟨fun k hk=>by have:=h.ech.lt k hk;rwa[he k hk]at this,fun k hk=>by have:=h.ech.pos k hk;rw[he k hk]at this;exact this,fun k hk t ht=>h.ech.zero k hk t (by rw[he k hk];exact ht),fun k l h3 _=>h3⟩,
  fun i j h3 h4 _=>by have:=h.red i j h3 h4 trivial;rw[he j h4]at this;exact this,h.zero⟩
theorem first{R C r:Nat}{F:Nat->Nat->Int}{l1:List Op}{r1:Nat}{c1:Nat->Nat}(hF:Low R C r F)(hl:qJ R l1)(h1:Hnf C R r1 c1 (zA1 l1 F)):
  r1=r/\Hnf C R r (fun k=>k) (zA1 l1 F)/\∀a,a<R->∀b,r<=b->b<C->zA1 l1 F a b=0:=by
 have hz:∀a,a<R->∀b,r<=b->b<C->zA1 l1 F a b=0:=fun a ha b h3 h4=>zKp hl (fun a' ha'=>hF.hnf.zero b h3 h4 a' ha') a ha
 have hdet:det r (fun a b=>F a b)≠0:=by
  rw[zBJ (F:=F) fun a ha b hb hab=>hF.hnf.ech.zero b hb a hab];have:=zEl (n:=r) (f:=fun i=>F i i) fun i hi=>hF.hnf.ech.pos i hi
  omega
 obtain⟨e1,e2⟩:=zI1 (σ:=fun a=>a) h1 (fun a ha b _=>zC8 hl F a ha b) hz hF.hnf.le (fun a ha=>by have:=hF.le;omega) hdet;subst e1;exact⟨rfl,h1.congr_c e2,hz⟩
def mu(r:Nat)(F:Nat->Nat->Int):Int:=yY r fun j=>yY (j+1) fun i=>F i i
theorem zAq.refl(n C:Nat)(F:Nat->Nat->Int):zAq n C F F:=⟨idf,fun _ ha b _=>zEU ha fun t=>F t b⟩
theorem zAq.trans{n C:Nat}{F G H:Nat->Nat->Int}(h:zAq n C F G)(k:zAq n C G H):zAq n C F H:=by
 obtain⟨X,hx⟩:=h;obtain⟨Y,hy⟩:=k;refine⟨fun a t=>zI n fun s=>Y a s*X s t,fun a ha b hb=>?_⟩;rw[hy a ha b hb];have:zI n (fun s=>Y a s*G s b)=zI n fun s=>zI n fun t=>Y a s*(X s t*F t b):=zD fun s hs=>by rw[hx s hs b hb,zY]
 rw[this,yB];refine zD fun t ht=>?_
 rw[<-jG];exact zD fun s hs=>by rw[Int.mul_assoc]
theorem zAq.congr{n C:Nat}{F F' G G':Nat->Nat->Int}(h:zAq n C F G)(e1:∀a,a<n->∀b,b<C->F' a b=F a b)(e2:∀a,a<n->∀b,b<C->G' a b=G a b):zAq n C F' G':=by
 obtain⟨X,hx⟩:=h;exact⟨X,fun a ha b hb=>by rw[e2 a ha b hb,hx a ha b hb];exact zD fun t ht=>by rw[e1 t ht b hb]⟩
theorem zG3{n C:Nat}{l:List Op}(hl:qJ n l)(F:Nat->Nat->Int):zAq n C F (zA1 l F)/\zAq n C (zA1 l F) F:=
 ⟨⟨zA1 l idf,fun a ha b _=>zDY hl F a ha b⟩,⟨fun a t=>zGF l idf t a,fun a ha b _=>zC8 hl F a ha b⟩⟩
structure jI(R C r:Nat)(c:Nat->Nat)(A H U V:Nat->Nat->Int):Prop where
 hnf:Hnf C R r c H
 mul:∀a,a<R->∀b,b<C->H a b=zI R fun t=>U a t*A t b
 inv:∀a,a<R->∀b,b<R->zI R (fun t=>U a t*V t b)=idf a b
 back:∀a,a<R->∀b,b<C->A a b=zI R fun t=>V a t*H t b
theorem jI.sp{R C r:Nat}{c:Nat->Nat}{A H U V:Nat->Nat->Int}(h:jI R C r c A H U V):zAq R C H A:=⟨V,h.back⟩
theorem jI.bound{R C r M:Nat}{c:Nat->Nat}{A H U V:Nat->Nat->Int}(h:jI R C r c A H U V)(hR:R<=4)(hM:1<=M)(hA:leM M R C A):leM (24*(8*M)^4) R C H:=
 zKP (U:=U) (X:=fun t a=>V a t) hR hM h.hnf hA h.back h.inv
theorem zG6{n:Nat}{σ:Nat->Nat}(f:Nat->Int)(hlt:∀k,k<n->σ k<n)(hinj:∀a b,a<n->b<n->σ a=σ b->a=b)(hsur:∀t,t<n->∃k,k<n/\σ k=t):zI n f=zI n fun k=>f (σ k):=by
 have h1:zI n f=zI n fun t=>zI n fun k=>if σ k=t then f t else 0:=zD fun t ht=>by
  obtain⟨k,hk,e⟩:=hsur t ht;rw[qU (c:=k) hk (fun i hi hne=>if_neg fun e2=>hne (hinj i k hi hk (e2.trans e.symm))),if_pos e]
 rw[h1,yB];refine zD fun k hk=>?_
 rw[qU (c:=σ k) (hlt k hk) (fun i hi hne=>if_neg fun e=>hne e.symm),if_pos rfl]
theorem jI.sp'{R C r:Nat}{c:Nat->Nat}{A H U V:Nat->Nat->Int}(h:jI R C r c A H U V):zAq R C A H:=⟨U,h.mul⟩
theorem zMN{n C:Nat}{F:Nat->Nat->Int}{L:List (Nat × Nat)}(hz:∀a,a<n->(∀k,k<L.length->(L.getD k (0,0)).1≠a)->lead C F a<0){a:Nat}(ha:a<n):a∈zGG n C F L:=by
 by_cases hm:a∈L.map (·.1)
 ·exact List.mem_append.2 (.inl hm)
 ·refine List.mem_append.2 (.inr ?_)
  simp only[List.mem_filter,List.mem_range,decide_eq_true_eq];refine⟨ha,hz a ha fun k hk e=>hm ?_⟩;rw[<-e,xgb,xga hk];exact List.mem_map.2 ⟨_,List.getElem_mem hk,rfl⟩
def zCk(n C:Nat)(F:Nat->Nat->Int)(L:List (Nat × Nat))(a:Nat):Nat:=(zGG n C F L).getD a 0
theorem zC9{n C:Nat}{F:Nat->Nat->Int}{L:List (Nat × Nat)}{k:Nat}(hk:k<L.length):zCk n C F L k=yS L k:=by
 unfold zCk zGG yS;rw[xgb,List.getElem?_append_left (by simpa using hk),List.getElem?_map,xga hk,xgb,xga hk];rfl
theorem zKq{n C:Nat}{F:Nat->Nat->Int}{L:List (Nat × Nat)}{k:Nat}(h1:L.length<=k)(h2:k<(zGG n C F L).length):lead C F (zCk n C F L k)<0:=by
 unfold zCk;have e:(zGG n C F L)[k]?=((List.range n).filter fun i=>decide (lead C F i<0))[k-L.length]?:=by
  unfold zGG;rw[List.getElem?_append_right (by simpa using h1)];simp
 rw[xgb,xga h2];rw[xga h2]at e;have:=xgd e.symm;simp only[List.mem_filter,decide_eq_true_eq]at this;exact this.2
theorem zIH{R C Ct M0 g:Nat}{A:Nat->Nat->Int}{y:Bst}{L:List (Nat × Nat)}(h:JC R C Ct M0 ⟨A,idf,idf⟩ R g y L)(hred:zGL (fun _ _=>True) L.length (zDH L) (vw (yS L) y.s))(hlen:(zGG R C y.s L).length=R):
  jI R C L.length (zDH L) A (fun a b=>y.s (zCk R C y.s L a) b) (fun a b=>y.t (zCk R C y.s L a) b) (fun a b=>y.i (zCk R C y.s L b) a):=by
 obtain⟨l,hl,hy⟩:=h.ops;rw[zFz]at hy;have hs:y.s=zA1 l A:=by rw[hy]
 have ht:y.t=zA1 l idf:=by rw[hy]
 have hi:y.i=zGF l idf:=by rw[hy]
 have hlok:=h.lok (xgf _);have hz:∀a,a<R->(∀k,k<L.length->(L.getD k (0,0)).1≠a)->lead C y.s a<0:=fun a ha hn=>by
  rw[zCE (h.zero a ha hn)];decide
 have olt:∀a,a<R->zCk R C y.s L a<R:=fun a ha=>by
  unfold zCk;rw[xgb,xga oM];exact zF1 hlok _ (List.getElem_mem _)
 have oinj:∀a b,a<R->b<R->zCk R C y.s L a=zCk R C y.s L b->a=b:=fun a b ha hb e=>by
  unfold zCk at e;rw[xgb,xga oM,xgb,xga oM]at e;exact(List.getElem_inj (h₀:=by omega) (h₁:=by omega) (zDZ hlok)).1 e
 have osur:∀t,t<R->∃a,a<R/\zCk R C y.s L a=t:=fun t ht=>by
  obtain⟨a,ha,e⟩:=List.getElem_of_mem (zMN hz ht);refine⟨a,by omega,?_⟩;unfold zCk;rw[xgb,xga ha];exact e
 refine⟨⟨Nat.le_trans h.len (xgf _),⟨h.ech.lt,fun k hk=>?_,fun k hk t ht=>?_,h.ech.inc⟩,fun i j hij hj _=>?_,fun a h1 h2 t ht=>?_⟩,fun a ha b hb=>?_,fun a ha b hb=>?_,?_⟩
 ·show 0<y.s (zCk R C y.s L k) (zDH L k)
  rw[zC9 hk];exact h.ech.pos k hk
 ·show y.s (zCk R C y.s L k) t=0
  rw[zC9 hk];exact h.ech.zero k hk t ht
 ·show 0<=y.s (zCk R C y.s L i) (zDH L j)/\y.s (zCk R C y.s L i) (zDH L j)<y.s (zCk R C y.s L j) (zDH L j)
  rw[zC9 oM,zC9 hj];exact hred i j hij hj trivial
 ·exact zD4 (zKq h1 oM) t ht
 ·show y.s (zCk R C y.s L a) b=zI R fun t=>y.t (zCk R C y.s L a) t*A t b
  rw[ht];conv=>lhs;rw[show y.s (zCk R C y.s L a) b=zA1 l A (zCk R C y.s L a) b from by rw[<-hs]]
  exact zDY hl A _ (olt a ha) b
 ·show zI R (fun t=>y.t (zCk R C y.s L a) t*y.i (zCk R C y.s L b) t)=idf a b
  rw[ht,hi];have:=zF0 hl (P:=idf) (Q:=idf) (C:=R) (fun a ha b hb=>zFl R a ha b hb) _ (olt a ha) _ (olt b hb);unfold dot at this;rw[this];unfold idf;by_cases e:a=b
  ·rw[if_pos e,if_pos (by rw[e])]
  ·rw[if_neg e,if_neg (fun e2=>e (oinj a b ha hb e2))]
 ·intro a ha b hb
  show A a b=zI R fun t=>y.i (zCk R C y.s L t) a*y.s (zCk R C y.s L t) b
  rw[<-zG6 (σ:=zCk R C y.s L) (fun t=>y.i t a*y.s t b) olt oinj osur,hi,hs];exact zC8 hl A a ha b
theorem zFt{os:List Nat}{n C:Nat}{F:Nat->Nat->Int}(h:os.length=n):(os.map fun i=>zQ C (F i))=genM n C fun a b=>F (os.getD a 0) b:=by
 refine List.ext_getElem (by simp[genM,h]) fun i h1 h2=>?_
 simp only[List.length_map]at h1;simp only[genM,zQ,List.getElem_map,List.getElem_range];rw[xgb,xga h1];rfl
theorem zOV:∃n:Nat,n=B32^zHE:=⟨_,rfl⟩
noncomputable def BD:Nat:=zOV.choose
theorem zJr:BD=B32^zHE:=zOV.choose_spec
theorem zGH:BSd BD:=⟨fun z hz=>by rw[zJr]at hz;exact⟨hz⟩⟩
theorem zOX:∃n:Nat,n=2^40:=⟨_,rfl⟩
noncomputable def E40:Nat:=zOX.choose
theorem zCH{a D:Nat}(h:a<=32*D):2^a<=B32^D:=by
 rw[show B32=2^32 from rfl,<-Nat.pow_mul];exact Nat.pow_le_pow_right oM h
theorem zFo(n M:Nat)(h:1<=M):leM M n n idf:=fun a _ b _=>by
 unfold idf;split<;>simp<;>omega
theorem zGl{M0 q:Nat}(hM1:1<=M0)(v:Value)(M:List (List Int))(R C:Nat)(w:World)(h:qL w v R C M)(hF:yG R C M)(hR:R<=6)(hC:C<=1000000)(hg:gk (esr q R) M0<BD)(hA:leM M0 R C (ent M))(hrk:RkB q R C ⟨ent M,idf,idf⟩):
  Calls Tryz.prog 41 #[v] w fun e w'=>∃v r c H U V,e= .returned v/\jI R C r c (ent M) H U V/\leM (gk (esr q R) M0) R R U/\leM (gk (esr q R) M0) R R V/\zCY w' v R C (genM R C H) (genM R R U) (genM R R V)/\Below w.heap.size w w':=by
 have hB:=zGH;have hB0:leB M0 R C R ⟨ent M,idf,idf⟩:=⟨hA,zFo R M0 hM1,zFo R M0 hM1⟩;have hE:=zKF (Cs:=C) (x0:=⟨ent M,idf,idf⟩) (Ct:=R) hR hM1 hg hrk;have hMB:M0<BD:=Nat.lt_of_le_of_lt (zGi _ hM1) hg;refine(zKO hB v M R C w h hF oM hC (hA.ok hMB) (Smd.one (z:=1) dE).sm hE (zIM hB0 hM1) (fun y L hJ a ha hn=>?_)).mono ?_
 ·rw[zCE ((JH.fin hJ).1.zero a ha hn)];decide
 ·rintro ee w' ⟨v,y,L,rfl,hJ,hl,hv,hb⟩
  obtain⟨hJ,hr⟩:=JH.fin hJ;have hbd:=hJ.bd;have olt:∀a,a<R->zCk R C y.s L a<R:=fun a ha=>by
   unfold zCk;rw[xgb,xga oM];exact zF1 (hJ.lok (xgf _)) _ (List.getElem_mem _)
  refine⟨v,_,_,_,_,_,rfl,zIH hJ hr hl,fun a ha b hb=>hbd.2.1 _ (olt a ha) b hb,fun a ha b hb=>hbd.2.2 _ (olt b hb) a ha,?_,hb⟩;rw[zFt hl,zFt hl]at hv;exact hv
theorem zL3{M0:Nat}(hM1:1<=M0)(v:Value)(M:List (List Int))(R C:Nat)(w:World)(h:qL w v R C M)(hF:yG R C M)(hR:R<=6)(hC:C<=1000000)(hg:gk (es R) M0<BD)(hA:leM M0 R C (ent M)):
  Calls Tryz.prog 41 #[v] w fun e w'=>∃v r c H U V,e= .returned v/\jI R C r c (ent M) H U V/\leM (gk (es R) M0) R R U/\leM (gk (es R) M0) R R V/\zCY w' v R C (genM R C H) (genM R R U) (genM R R V)/\Below w.heap.size w w':=
 (zGl (q:=R) hM1 v M R C w h hF hR hC (Nat.lt_of_le_of_lt (zAM hM1 (zGf R R)) hg) hA RkB.all).mono fun e w' ⟨v,r,c,H,U,V,h1,h2,h3,h4,h5⟩=>⟨v,r,c,H,U,V,h1,h2,h3.mono (zAM hM1 (zGf R R)),h4.mono (zAM hM1 (zGf R R)),h5⟩
end Go.Proofs.YtgnmdddaiefooaaGreat
