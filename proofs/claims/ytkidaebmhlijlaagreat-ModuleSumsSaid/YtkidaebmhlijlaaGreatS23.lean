/- Joined. -/
import Derived.Test.YtkidaebmhlijlaaGreatS21
set_option linter.unusedVariables false
set_option linter.unusedSimpArgs false
set_option linter.unusedSectionVars false
set_option maxHeartbeats 16000000
set_option maxRecDepth 100000
variable{L:(Nat->Int)->Prop}{T cs:Array Go.Value}{last:Int}{M:List (List Int)}{C N R a b g h i k m n q r:Nat}{c:Nat->Nat}{A F G H U V X:Nat->Nat->Int}{v:Go.Value}{w w':Go.World}
namespace Go.Proofs.YtkidaebmhlijlaaGreat
open Go.RowKit
def zD5(k R C:Nat)(A:Nat->Nat->Int):Prop:=∃σ τ:Nat->Nat,(∀a,a<k->σ a<R)/\(∀a,a<k->τ a<C)/\det k (fun a b=>A (σ a) (τ b))≠0
theorem zD5.tr(h:zD5 k R C A):zD5 k C R (trF A):=by
 obtain⟨σ,τ,h1,h2,h3⟩:=h;refine⟨τ,σ,h2,h1,fun h0=>h3 ?_⟩;rw[<-zCr,<-h0];rfl
theorem zIw(h:∀a,a<R->∀b,b<C->F a b=qH q fun t=>X a t*G t b)(hm:zD5 k R C F):k<=q:=by
 obtain⟨σ,τ,hσ,hτ,hd⟩:=hm;refine zAE fun hlt=>hd ?_
 have h1:(0:Int)∣det k fun a b=>qH q fun t=>X (σ a) t*G t (τ b):=zCj (P:=fun a t=>X (σ a) t) (F:=fun t b=>G t (τ b)) fun ρ hρ=>by
  refine zDF (R:=q) (F:=fun t b=>G t (τ b)) (fun ρ hρ hi=>?_) ρ hρ;have h2:=hi.le (k-1) oM;have h3:=hρ (k-1) oM;omega
 rw[zAm (G:=fun a b=>F (σ a) (τ b)) fun a ha b hb=>(h _ (hσ a ha) _ (hτ b hb)).symm]at h1;exact Int.zero_dvd.1 h1
theorem zD5.of_mul(h:∀a,a<R->∀b,b<C->F a b=qH q fun t=>X a t*G t b)(hm:zD5 k R C F):zD5 k q C G:=by
 obtain⟨σ,τ,hσ,hτ,hd⟩:=hm;refine zM fun hn=>hd ?_
 have h1:(0:Int)∣det k fun a b=>qH q fun t=>X (σ a) t*G t (τ b):=zCj (P:=fun a t=>X (σ a) t) (F:=fun t b=>G t (τ b)) fun ρ hρ=>by
  have:det k (fun a b=>G (ρ a) (τ b))=0:=zM fun h0=>hn ⟨ρ,τ,hρ,hτ,h0⟩
  rw[this];exact zAL 0
 rw[zAm (G:=fun a b=>F (σ a) (τ b)) fun a ha b hb=>(h _ (hσ a ha) _ (hτ b hb)).symm]at h1;exact Int.zero_dvd.1 h1
theorem zD5.cols(hm:zD5 k R C A):k<=C:=by
 refine zIw (q:=C) (X:=A) (G:=idf) (C:=C) (fun a _ b hb=>?_) hm;rw[zBB hb (fun t _ hne=>by rw[show idf t b=0 from if_neg hne,zZ]),show idf b b=1 from if_pos rfl,zAv]
theorem zOU{f:Nat->Int}(h:∀i,i<n->f i≠0):yW n f≠0:=by
 induction n with
 |zero=>exact(show(1:Int)≠0 by decide)
 |succ n ih=>
  intro h0;rcases Int.mul_eq_zero.1 (show yW n f*f n=0 from h0)with h1|h1
  exact ih (fun i hi=>h i oM) h1;exact h n oM h1
theorem Ech.min1(h:Ech C r c H):zD5 r r C H:=by
 refine⟨fun a=>a,c,fun a ha=>ha,h.lt,?_⟩;rw[zFZ fun a ha b hb hba=>h.zero a ha _ (h.inc b a hba ha)];exact zOU fun i hi=>by have:=h.pos i hi;omega
theorem zIN.min1(h:zIN R C r c A H):zD5 r R C A:=by
 obtain⟨X,hX⟩:=h.sp';exact zD5.of_mul (F:=H) (fun a ha b hb=>hX a (by have:=h.hnf.le;omega) b hb) h.hnf.ech.min1
theorem zIN.rank(h:zIN R C r c A H)(hm:zD5 k R C A):k<=r:=by
 obtain⟨X,hX⟩:=h.hnf.span h.sp;exact zIw hX hm
theorem HB.min1(h:HB C m G L):zD5 m m C G:=by
 obtain⟨c,hc⟩:=h.hnf;exact hc.ech.min1
theorem zE7{p:Nat}(h:∀a,a<p->yC q C G (F a)):∃X:Nat->Nat->Int,∀a,a<p->∀b,b<C->F a b=qH q fun t=>X a t*G t b:=by
 have hY:∀a,∃Y:Nat->Int,a<p->∀b,b<C->F a b=qH q fun t=>Y t*G t b:=fun a=>by
  by_cases ha:a<p
  ·obtain⟨Y,h⟩:=h a ha
   exact⟨Y,fun _=>h⟩
  exact⟨fun _=>0,fun h=>absurd h ha⟩
 exact⟨fun a=>(hY a).choose,fun a ha=>(hY a).choose_spec ha⟩
theorem zLr(h:zEn R C r c A H U V)(hb:HB R m G (zMh R C A)):m+r=R:=by
 have hr:=h.hnf.le;have hK:zD5 (R-r) (R-r) R (zOz r U):=by
  have h1:∀a,a<R-r->∀b,b<R-r->(qH R fun t=>zOz r U a t*V t (r+b))=idf a b:=fun a ha b hb=>by
   have:=h.inv (r+a) oM (r+b) oM;show(qH R fun t=>U (r+a) t*V t (r+b))=_;rw[this];unfold idf;by_cases e:a=b
   ·rw[if_pos e,if_pos oM]
   rw[if_neg e,if_neg oM]
  refine zM fun hn=>?_
  have h2:(0:Int)∣det (R-r) fun a b=>qH R fun t=>zOz r U a t*V t (r+b):=zFY (F:=zOz r U) (Q:=fun t b=>V t (r+b)) fun τ hτ=>by
   have:det (R-r) (fun a b=>zOz r U a (τ b))=0:=zM fun h0=>hn ⟨fun a=>a,τ,fun a ha=>ha,hτ,h0⟩
   rw[this];exact zAL 0
  rw[zAm (G:=idf) h1,zQs]at h2;have:=Int.zero_dvd.1 h2;omega
 obtain⟨X,hX⟩:=zE7 (F:=zOz r U) (G:=G) (p:=R-r) (q:=m) (C:=R) fun a ha=>(hb.iff _).1 ((h.ker _).1 (yC.row _ ha))
 obtain⟨Y,hY⟩:=zE7 (F:=G) (G:=zOz r U) (p:=m) (q:=R-r) (C:=R) fun a ha=>(h.ker _).2 ((hb.iff _).2 (yC.row _ ha))
 have h1:=zIw hX hK;have h2:=zIw hY hb.min1;omega
theorem zIk(h:¬ zD5 k R C A):¬ zD5 (k+1) (R+1) C A:=by
 rintro⟨σ,τ,hσ,hτ,hd⟩;refine hd (Int.zero_dvd.1 ?_);have h0:∀σ τ:Nat->Nat,(∀a,a<k->σ a<R)->(∀a,a<k->τ a<C)->det k (fun a b=>A (σ a) (τ b))=0:=fun σ τ h1 h2=>zM fun h3=>h ⟨σ,τ,h1,h2,h3⟩
 refine zDF (R:=R+1) (F:=fun a b=>A a (τ b)) (fun σ hσ hi=>?_) σ hσ;have hlow:∀a,a<k->σ a<R:=fun a ha=>by
  have h1:=hi.lt a k ha oM;have h2:=hσ k oM;omega
 obtain⟨q,hq0,hq1⟩:∃q:Nat->Nat,q 0=σ k/\∀a,q (a+1)=σ a:=⟨fun a=>if a=0 then σ k else σ (a-1),rfl,fun a=>rfl⟩;have e1:det (k+1) (fun a b=>A (q a) (τ b))=0:=by
  rw[zC1];refine zBf fun j hj=>?_
  have:det k (mnr (fun a b=>A (q a) (τ b)) 0 j)=0:=by
   have:=h0 σ (fun b=>τ (sk j b)) hlow fun b hb=>hτ _ (zP2 hb)
   rw[<-this];exact zAm fun a _ b _=>by
    show A (q (sk 0 a)) (τ (sk j b))=_;rw[zES,hq1]
  rw[this,zZ,zZ]
 have e2:=zH6 (n:=k+1) (A:=fun a b=>A (q a) (τ b)) (fun a=>if a=k then 0 else a+1) (fun b=>b) (fun a ha=>by split<;>omega) fun b hb=>hb
 rw[e1]at e2;rw[show det (k+1) (fun a b=>A (σ a) (τ b))=det (k+1) (fun a b=>A (q (if a=k then 0 else a+1)) (τ b)) from zAm fun a ha b hb=>by
  by_cases e:a=k
  ·rw[if_pos e,hq0,e]
  rw[if_neg e,hq1]]
 exact e2
theorem zD5.down(h:zD5 (k+1) R C A):zD5 k R C A:=zM fun hn=>by
 refine zIk hn ?_;obtain⟨σ,τ,a,b,c⟩:=h;exact⟨σ,τ,fun i hi=>by have:=a i hi;omega,b,c⟩
theorem zUL{c:Nat}(hc:c<n)(x:Int)(f:Nat->Int):(qH n fun s=>(if c=s then x else 0)*f s)=x*f c:=by
 rw[zBB hc (fun i _ hne=>by rw[if_neg (fun e=>hne e.symm),yB]),if_pos rfl]
theorem zVp(h1:1<=h)(hN:N<=5∨C<=4):∀R,R<=N->leM h R C A->∃r m,∃(ρ:Nat->Nat) (W:Nat->Nat->Int),m+r=R/\zD5 r R C A/\¬ zD5 (r+1) R C A∧
  (∀i,i<m->ρ i<R/\W i (ρ i)≠0/\(∀t,ρ i<t->W i t=0)/\zMh R C A (W i)/\∀t,(W i t).natAbs<=N*(24*h^4))/\∀i j,i<j->j<m->ρ i<ρ j:=by
 intro R;induction R with
 |zero=>
  intro _ _;refine⟨0,0,fun _=>0,fun _ _=>0,rfl,⟨fun a=>a,fun a=>a,fun a ha=>by omega,fun a ha=>by omega,show(1:Int)≠0 by decide⟩,?_,fun i hi=>by omega,fun i j _ hj=>by omega⟩;rintro⟨σ,τ,hσ,-,-⟩;have:=hσ 0 oM;omega
 | succ R ih=>
  intro hR hA;obtain⟨r,m,ρ,W,e1,hm,hn,hW,hρ⟩:=ih oM fun a ha b hb=>hA a oM b hb
  have up:zD5 r (R+1) C A:=by
   obtain⟨σ,τ,a,b,c⟩:=hm;exact⟨σ,τ,fun i hi=>by have:=a i hi;omega,b,c⟩
  have old:∀i,i<m->ρ i<R+1/\W i (ρ i)≠0/\(∀t,ρ i<t->W i t=0)/\zMh (R+1) C A (W i)/\∀t,(W i t).natAbs<=N*(24*h^4):=fun i hi=>by
   obtain⟨a1,a2,a3,a4,a5⟩:=hW i hi;refine⟨by omega,a2,a3,fun b hb=>?_,a5⟩;show(qH R fun a=>W i a*A a b)+W i R*A R b=0;rw[a4 b hb,a3 R a1,yB];rfl
  by_cases hx:zD5 (r+1) (R+1) C A
  ·exact⟨r+1,m,ρ,W,by omega,hx,zIk hn,old,hρ⟩
  have hr4:r<=4:=by
   have:=hm.cols;omega
  obtain⟨σ,τ,hσ,hτ,hd⟩:=hm;obtain⟨q,hq0,hq1⟩:∃q:Nat->Nat,q 0=R/\∀a,q (a+1)=σ a:=⟨fun a=>if a=0 then R else σ (a-1),rfl,fun a=>rfl⟩;have hqR:∀i,i<r+1->q i<R+1:=fun i hi=>by
   cases i with
   |zero=>rw[hq0];omega
   |succ i=>rw[hq1];have:=hσ i oM;omega
  have hqn:∀i,i<r+1->i≠0->q i<R:=fun i hi hne=>by
   cases i with
   |zero=>omega
   |succ i=>rw[hq1];exact hσ i oM
  obtain⟨cf,hcf⟩:∃cf:Nat->Int,∀i,cf i=sg1 i*det r fun a b=>A (q (sk i a)) (τ b):=⟨_,fun _=>rfl⟩
  obtain⟨w,hw⟩:∃w:Nat->Int,∀s,w s=qH (r+1) fun i=>if q i=s then cf i else 0:=⟨_,fun _=>rfl⟩
  have hc0:cf 0≠0:=by
   rw[hcf];have:(det r fun a b=>A (q (sk 0 a)) (τ b))=det r fun a b=>A (σ a) (τ b):=zAm fun a _ b _=>by rw[zES,hq1]
   rw[this];simpa[sg1]using hd
  have hwR:w R=cf 0:=by
   rw[hw,zBB (c:=0) oM (fun i hi hne=>by rw[if_neg (by have:=hqn i hi hne;omega)]),if_pos hq0]
  have hker:zMh (R+1) C A w:=fun b hb=>by
   have e:(qH (R+1) fun s=>w s*A s b)=qH (r+1) fun i=>cf i*A (q i) b:=by
    have e2:(qH (R+1) fun s=>w s*A s b)=qH (R+1) fun s=>qH (r+1) fun i=>(if q i=s then cf i else 0)*A s b:=zL fun s _=>by rw[hw,<-zCw]
    rw[e2,zBe];exact zL fun i hi=>zUL (hqR i hi) (cf i) fun s=>A s b
   rw[e];have h0:det (r+1) (fun i j=>A (q i) (if j=0 then b else τ (j-1)))=0:=zM fun h0=>hx ⟨q,fun j=>if j=0 then b else τ (j-1),hqR,fun j hj=>by
    dsimp only;split;exact hb;exact hτ _ oM,h0⟩
   rw[zGo]at h0;rw[<-h0];refine zL fun i hi=>?_
   have:det r (mnr (fun i j=>A (q i) (if j=0 then b else τ (j-1))) i 0)=det r fun a b'=>A (q (sk i a)) (τ b'):=zAm fun a _ b' _=>by
    unfold mnr;dsimp only;rw[zES,if_neg oM,Nat.add_sub_cancel]
   rw[this,hcf,if_pos rfl,qI,qL (A (q i) b)]
  have hbd:∀t,(w t).natAbs<=N*(24*h^4):=fun t=>by
   rw[hw];have:=zFN (n:=r+1) (f:=fun i=>if q i=t then cf i else 0) (B:=24*h^4) fun i hi=>by
    split
    ·rw[hcf,zSU]
     exact zN5 hr4 h1 fun a ha b hb=>hA _ (hqR _ (zP2 ha)) _ (hτ b hb)
    exact zE _
   refine zB this ?_;exact zO _ oM
  refine⟨r,m+1,fun i=>if i=m then R else ρ i,fun i=>if i=m then w else W i,by omega,up,hx,fun i hi=>?_,fun i j hij hj=>?_⟩
  ·by_cases e:i=m
   ·dsimp only
    rw[if_pos e,if_pos e];refine⟨by omega,by rw[hwR];exact hc0,fun t ht=>?_,hker,hbd⟩;rw[hw];exact zBf fun k hk=>by rw[if_neg (by have:=hqR k hk;omega)]
   dsimp only;rw[if_neg e,if_neg e];exact old i oM
  dsimp only;rw[if_neg oM];by_cases e:j=m
  ·rw[if_pos e];exact(hW i oM).1
  rw[if_neg e];exact hρ i j hij oM
theorem HB.bound{W:Nat->Nat->Int}(hb:HB C m G L)(hm4:m<=4)(h1:1<=h)(hW:leM h R C W)(hL:∀a,a<R->L (W a))(hm:zD5 m R C W):leM (24*(8*h)^4) m C G:=by
 obtain⟨c,hc⟩:=hb.hnf;obtain⟨X,hX⟩:=zE7 fun a ha=>(hb.iff _).1 (hL a ha)
 obtain⟨σ,τ,hσ,hτ,hd⟩:=hm;refine zJn (X:=fun t a=>X a t) hm4 h1 hc.ech hc.red hW hX hσ fun h0=>hd ?_
 have h2:(0:Int)∣det m fun a b=>qH m fun t=>X (σ a) t*G t (τ b):=zFY (F:=fun a t=>X (σ a) t) (Q:=fun t b=>G t (τ b)) fun ρ hρ=>by
  have:=zH6 (A:=fun a t=>X (σ a) t) (fun a=>a) ρ (fun a ha=>ha) hρ;rw[show det m (fun a t=>X (σ a) t)=0 from h0]at this;exact this
 rw[zAm (G:=fun a b=>W (σ a) (τ b)) fun a ha b hb=>(hX _ (hσ a ha) _ (hτ b hb)).symm]at h2;exact Int.zero_dvd.1 h2
theorem zM5(hf:zEn R C r c A H U V)(hb:HB R m G (zMh R C A))(hN:N<=5∨C<=4)(hN0:0<N)(hR:R<=N)(hm4:m<=4)(h1:1<=h)(hA:leM h R C A):leM (24*(8*(N*(24*h^4)))^4) m R G:=by
 obtain⟨r',m',ρ,W,e1,hm,hn,hW,hρ⟩:=zVp h1 hN R hR hA;have e2:=zLr hf hb;have e3:=hf.lat.rank hm;have e4:r<=r':=zAE fun hlt=>by
  refine hn ?_;have:=hf.lat.min1;obtain⟨d,rfl⟩:=Nat.exists_eq_add_of_lt hlt;clear e1 e2 e3 hlt hW hρ hm hn hf;induction d with
  |zero=>exact this
  |succ d ih=>exact ih this.down
 obtain rfl:m'=m:=by omega
 refine hb.bound (R:=m') (W:=W) oM (zB h1 (zB (Nat.le_pow oM) (zB (qK _ (show 0<24 by omega)) (qK _ hN0)))) (fun a ha b _=>(hW a ha).2.2.2.2 b) (fun a ha=>(hW a ha).2.2.2.1) ⟨fun a=>a,ρ,fun a ha=>ha,fun a ha=>(hW a ha).1,?_⟩;rw[zEJ fun a ha b hb' hab=>(hW a ha).2.2.1 _ (hρ a b hab hb')];exact zOU fun i hi=>(hW i hi).2.1
theorem zVl(A:Nat->Nat->Int):∀a,a<n->∀b,b<C->A a b=qH n fun t=>idf a t*A t b:=fun a ha b _=>by
 rw[zBB ha (fun i _ hne=>by rw[show idf a i=0 from if_neg (fun e=>hne e.symm),yB]),show idf a a=1 from if_pos rfl,zAD]
theorem zD5.le(h:zD5 k R C A):k<=R:=zIw (zVl (n:=R) (C:=C) A) h
structure zY3(R C:Nat)(A:Nat->Nat->Int):Prop where
 sat:∀x,zXq R C A x->yC R C A x
 full:zD5 R R C A
theorem zBl.cut{cap:Nat}(h:zBl w (.slice (some ⟨b,0,none⟩) n cap) M){f t:Nat}(hf:f<=t)(ht:t<=n)(a:Option Addr)(ha:f<t->a=some ⟨b,f,none⟩)(c:Nat)(hc:t-f<=c)(hc2:c<=cap):zGV w (.slice a (t-f) c) ((M.take t).drop f):=by
 obtain⟨ao,n',cap',e,h2,h3,h4,h5⟩:=h;injection e with e1 e2 e3
 subst e2;subst e3;subst e1;refine⟨a,t-f,c,rfl,by rw[zBR,qD];omega,hc,by omega,fun hn=>?_⟩;have hft:f<t:=zCP fun hle=>hn (qJ (by rw[qD];omega))
 obtain⟨b',cs,k1,k2,k3⟩:=h5 (by rintro rfl;simp at hn);injection k1 with k1
 injection k1 with k1
 subst k1;refine⟨b,f,cs,ha hft,k2,fun k zs hk=>?_⟩;have hkl:=(xge.1 hk).1;rw[zBR,qD]at hkl;rw[List.getElem?_drop,List.getElem?_take_of_lt oM]at hk;exact k3 _ _ hk
theorem zWK{zs:List Int}(h:zBm w v zs)(e:∀b,jQ w b zs->w'.heap[b]?=w.heap[b]?)(x:zBq w w'):zBm w' v zs:=by
 obtain⟨ao,n,cap,h1,h2,h3,h4,h5⟩:=h;exact⟨ao,n,cap,h1,h2,h3,h4,fun hn=>(h5 hn).elim fun b h=>⟨b,h.1,h.2.old (e b h.2) x⟩⟩
theorem zGV.offw{T:TypeId}(h:zGV w v M)(hg:Blk w g T cs)(h1:T≠tR)(h2:T≠tI)(ho:∀b,b≠g->w'.heap[b]?=w.heap[b]?)(hx:zBq w w'):zGV w' v M:=by
 obtain⟨ao,n,cap,e1,e2,e3,e4,e5⟩:=h;refine⟨ao,n,cap,e1,e2,e3,e4,fun hn=>?_⟩;obtain⟨b,o,cs',q1,q2,q3⟩:=e5 hn;have hne:∀{c:Nat} {U:TypeId} {ds:Array Value},w.heap[c]?=some (.cells ds U (0,0))->T≠U->c≠g:=by
  intro c U ds hc hT hh;subst hh;have hg':w.heap[c]?=some (.cells cs T (0,0)):=hg;rw[hg']at hc;injection hc with hc
  injection hc with _ ht
  exact hT ht
 refine⟨b,o,cs',q1,(ho b (hne q2 h1)).trans q2,fun k zs hk=>?_⟩;obtain⟨rv,r1,r2⟩:=q3 k zs hk;exact⟨rv,r1,zWK r2 (fun b' hr=>by obtain⟨c2,s2,-⟩:=hr;exact ho b' (hne s2 h2)) hx⟩
theorem zH2.keep3{R C:Int}(h:zH2 w v R C M)(hb:Blk w b 32 cs)(x y z:Value):zH2 (((w.setCell ⟨b,0,none⟩ x).setCell ⟨b,1,none⟩ y).setCell ⟨b,2,none⟩ z) v R C M:=by
 obtain⟨A,rfl,h⟩:=h;exact⟨A,rfl,h.offw hb dE dE (fun k hk=>zAe _ _ k _ _ _ hk) (hb.lext3 dE _ _ _)⟩
theorem zGV.nil(w:World)(a:Option Addr):zGV w (.slice a 0 0) []:=⟨a,0,0,rfl,rfl,xgf _,by omega,fun h=>absurd rfl h⟩
theorem zVS(v:Value)(R C f t:Nat)(M:List (List Int))(w:World)(h:zAO w v R C M)(hF:zBc R C M)(hf:f<=t)(ht:t<=R)(hR:R<=1000000):
  Calls Tryz.prog 103 #[v,.int .i64 f,.int .i64 t] w fun e w'=>∃v',e= .returned v'/\zH2 w' v' ((t-f:Nat):Int) C ((M.take t).drop f)/\Below w.heap.size w w':=by
 obtain⟨A,rfl,h⟩:=h;obtain⟨ao,n,cap,rfl,e2,e3,e4,h5⟩:=id h;obtain rfl:R=n:=by rw[<-e2,hF.1]
 have htc:t<=cap:=by omega
 have hsub:(t:Int)-(f:Int)=((t-f:Nat):Int):=by omega
 have hw:IntKind.i64.wrap ((t-f:Nat):Int)=((t-f:Nat):Int):=yR _ oM;rcases qN R with h0|h0
 ·subst h0
  obtain rfl:f=0:=by omega
  obtain rfl:t=0:=by omega
  obtain rfl:M= []:=qB e2;clear hF e2 h5 h hsub;go_enter Tryz.func103,Tryz.ntmps103;go_upto_region 1 with(fail)
  refine zD ?_;intro W0 hW0;obtain⟨hB0,bx,br,hs0⟩:=zAd hW0;obtain⟨c1,c2,c3,c4,c5,c6⟩:=bx.three;have lbx:=bx.lt;clear hW0;refine yX 12 [] ?_;refine sRd ?_;refine sRf ?_;intro w2 hbw2;have br:=br.below hbw2;have hB2:=nx hB0 hbw2;obtain⟨r1,r2,r3,r4,r5,r6⟩:=br.three;clear c1 c2 c3 c4 c5 c6;go_wp2;refine zAl (r:=w.heap.size+1) rfl rfl rfl (br.put3 _ _ _) ⟨_,rfl,⟨_,rfl,zGV.nil _ _⟩,yJ (yJ (yJ hB2 oM 0 _) oM 1 _) oM 2 _⟩
 obtain⟨b,rfl⟩:∃b,ao=some ⟨b,0,none⟩:=by
  obtain⟨b,_,e,-⟩:=h5 (by rintro rfl;simp at e2;omega);exact⟨b,e⟩
 clear hF e2 h5;obtain⟨q,hq⟩:∃q:Option Addr,(if t=f then some ⟨b,0,none⟩else some ⟨b,f,none⟩)=q:=⟨_,rfl⟩;have hq2:f<t->q=some ⟨b,f,none⟩:=fun hlt=>by rw[<-hq,if_neg oM]
 have HQ2:=xgv hq2;clear hq2;go_enter Tryz.func103,Tryz.ntmps103;go_upto_region 1 with(fail)
 refine zD ?_;intro W0 hW0;obtain⟨hB0,bx,br,hs0⟩:=zAd hW0;obtain⟨c1,c2,c3,c4,c5,c6⟩:=bx.three;have lbx:=bx.lt;clear hW0;refine yX 12 [] ?_;refine sRd ?_;refine sRf ?_;intro w2 hbw2;have br:=br.below hbw2;have hB2:=nx hB0 hbw2;obtain⟨r1,r2,r3,r4,r5,r6⟩:=br.three;clear c1 c2 c3 c4 c5 c6;go_wp2;have hr2:=(h.cut hf ht q HQ2.out (t-f) (xgf _) oM).below hB2;refine zAl (r:=w.heap.size+1) rfl rfl rfl (br.put3 _ _ _) ⟨_,rfl,zH2.keep3 ⟨_,rfl,hr2⟩ br _ _ _,yJ (yJ (yJ hB2 oM 0 _) oM 1 _) oM 2 _⟩
theorem zLx(v:Value)(zs:List Int)(w:World)(h:zBm w v zs):
  Calls Tryz.prog 133 #[v] w fun e w'=>e= .returned (.bool (decide (∀z∈zs,z=0)))/\Below w.heap.size w w':=by
 obtain⟨ao,n,cap,rfl,e2,e3,e4,-⟩:=id h;have HX:=xgw e2;clear e2;obtain⟨ans,hans⟩:∃ans,decide (∀z∈zs,z=0)=ans:=⟨_,rfl⟩;rw[hans];have HA:=xgw hans;clear hans;go_enter Tryz.func133,Tryz.ntmps133;go_wp2;go_loopw [7] (fun iv wr=>∃k:Nat,k<=n/\iv= .int .i64 k/\Below w.heap.size w wr/\Hid (∀z∈zs.take k,z=0)) (fun iv _=>n-(intOf iv).toNat)
 case atStart=>exact⟨0,by omega,rfl,zA _ _,xgw sI⟩
 obtain⟨k,hk,rfl,hb,hz⟩:=hrel;by_cases hlt:k<n
 ·obtain⟨b,z,s,a,l,c,rfl,hbl,hzk,q1,q2,hzv⟩:=(h.below hb).cell (k:=k) (by rw[HX.out];exact hlt)
  have HZ:=xgw hzk;clear hzk;go_upto_region 4 with(fail)
  refine zD ?_;intro W1 hW1;obtain⟨hB1,T4,hs1⟩:=qM hW1;obtain⟨d1,d2,d3,d4⟩:=T4.two;clear q1 q2 hW1;go_wp2_with fail
  refine(zAa _ z W1 (hzv.ext (lx hB1)).weak).mono ?_;rintro e w2 ⟨rfl,hb2⟩;have hb':=nx (nx hb hB1) hb2;clear d1 d2 d3 d4;by_cases h0:z=0
  ·have hc:(zAp z 0 !=0)=false:=by rw[h0];decide
   obtain⟨q,hq⟩:∃q,zAp z 0=q:=⟨_,rfl⟩;rw[hq]at hc ⊢
   clear hq;go_wp2;go_roundw
   case rel=>
    refine⟨k+1,by omega,by simp,hb',xgw ?_⟩;rw[yY,HZ.out];intro y hy;rcases List.mem_append.1 hy with h1|h1
    exact hz.out y h1;simp at h1;rw[h1,h0]
   case measure=>simp[intOf];omega
  have hc:(zAp z 0 !=0)=true:=by
   rw[bne_iff_ne];unfold zAp;split<;>(try split)<;>omega
  obtain⟨q,hq⟩:∃q,zAp z 0=q:=⟨_,rfl⟩;rw[hq]at hc ⊢
  clear hq;go_wp2;go_ret;refine⟨?_,hb'⟩;rw[<-HA.out,decide_eq_false (fun hh=>h0 (hh z (xgd HZ.out)))];rfl
 obtain rfl:k=n:=by omega
 go_wp2;go_ret;refine⟨?_,hb⟩;have:=hz.out;rw[<-HX.out,yU]at this;rw[<-HA.out,decide_eq_true this];rfl
theorem zRV(v:Value)(R C r:Nat)(κ:Nat->Nat)(M:List (List Int))(w:World)(h:zAO w v R C M)(hF:zBc R C M)(hH:Hnf C R r κ (ent M)):
  Calls Tryz.prog 104 #[v] w fun e w'=>e= .returned (.int .i64 r)/\Below w.heap.size w w':=by
 obtain⟨A,rfl,h⟩:=h;obtain⟨ao,n,cap,rfl,e2,e3,e4,-⟩:=id h;obtain rfl:R=n:=by rw[<-e2,hF.1]
 have HX:=xgw e2;have HF:=xgv hF;have hle:=hH.le;have HZE:zAN (∀k,k<R->decide (∀z∈yL C (ent M k),z=0)=decide (r<=k)):=⟨fun k hk=>by
  refine decide_eq_decide.2 ⟨fun hz=>?_,fun hr z hz=>?_⟩
  ·refine zAE fun hlt=>?_
   have hp:=hH.ech.pos k hlt;have:=hz (ent M k (κ k)) (List.mem_map.2 ⟨κ k,yI.2 (hH.ech.lt k hlt),rfl⟩);omega
  obtain⟨t,ht,rfl⟩:=List.mem_map.1 hz;exact hH.zero k hr hk t (yI.1 ht)⟩
 clear e2 hF hH;go_enter Tryz.func104,Tryz.ntmps104;go_upto_region 1 with(fail)
 refine zD ?_;intro W0 hW0;obtain⟨hB0,bx,hs0⟩:=qM hW0;clear hW0;go_wp2;go_loopw [3] (fun iv wr=>∃i:Nat,i<=r/\iv= .int .i64 i/\Below w.heap.size w wr/\Blk wr w.heap.size 32 #[.int .i64 R,.int .i64 C,.slice ao R cap]) (fun iv _=>R-(intOf iv).toNat)
 case atStart=>exact⟨0,by omega,rfl,hB0,bx⟩
 clear bx hB0;obtain⟨i,hi,rfl,hb,bx⟩:=hrel;obtain⟨c1,c2,c3,c4,c5,c6⟩:=bx.three;by_cases hlt:i<R
 ·obtain⟨b,ra,rn,rc,zs,rfl,hbl,hz,p1,hrv⟩:=(h.below hb).row (k:=i) (by rw[HX.out];exact hlt)
  obtain rfl:=HF.out.row_eq hz;go_wp2_with fail
  refine(zLx _ (yL C (ent M i)) wr hrv).mono ?_;rintro e w7 ⟨rfl,hb7⟩;rw[HZE.out i hlt];have hb8:=nx hb hb7;have bx:=bx.below hb7;clear c1 c2 c3 c4 c5 c6 p1 hz hrv;by_cases hir:i<r
  ·rw[decide_eq_false (by omega:¬ r<=i)]
   go_wp2;go_roundw
   case rel=>exact⟨i+1,by omega,by simp,hb8,bx⟩
   case measure=>simp[intOf];omega
  obtain rfl:i=r:=by omega
  rw[decide_eq_true (xgf i)];go_wp2;go_ret;exact⟨rfl,hb8⟩
 obtain rfl:i=r:=by omega
 go_wp2;go_ret;exact⟨rfl,hb⟩
theorem zRz(v:Value)(zs:List Int)(w:World)(h:zBm w v zs):
  Calls Tryz.prog 131 #[v] w fun e w'=>e= .returned (.int .i64 (zCG 0 zs))/\Below w.heap.size w w':=by
 obtain⟨ao,n,cap,rfl,h2,h3,h4,h5⟩:=id h;have HL:=xgw h2;clear h2 h5;go_enter Tryz.func131,Tryz.ntmps131;go_wp2;go_loopw [3] (fun i wr=>∃k:Nat,k<=n/\i= .int .i64 k/\Below w.heap.size w wr/\Hid (zCG 0 zs=zCG k (zs.drop k))) (fun i _=>n-(intOf i).toNat)
 case atStart=>exact⟨0,by omega,rfl,zA _ _,by rw[xgk];exact xgw rfl⟩
 obtain⟨k,hk,rfl,hb,hgo⟩:=hrel;by_cases hlt:k<n
 ·obtain⟨b,z,s,a,l,c,rfl,hbl,hz,c1,c2,hv⟩:=(h.below hb).cell (k:=k) (by rw[HL.out];exact hlt)
  have HZ:=xgw hz;clear hz;go_wp2_with fail
  refine(zEv _ z wr hv).mono ?_;rintro e w7 ⟨rfl,hb7⟩;have hb9:=nx hb hb7;by_cases hz0:z=0
  ·rw[zBX hz0]
   go_wp2;go_roundw
   case rel=>
    refine⟨k+1,by omega,by simp,hb9,xgw ?_⟩;rw[hgo.out,zDV HZ.out];conv=>lhs;unfold zCG
    rw[if_neg (by simp[hz0])]
   case measure=>simp[intOf];omega
  have hc:=zCi hz0;obtain⟨k0,hk0⟩:∃k0,zAp z 0=k0:=⟨_,rfl⟩;rw[hk0]at hc ⊢
  have hc2:(k0 !=0)=true:=by simpa using hc
  go_wp2;go_ret;refine⟨?_,hb9⟩;rw[hgo.out,zDV HZ.out];conv=>rhs;unfold zCG
  rw[if_pos hz0];rfl
 obtain rfl:k=n:=by omega
 go_wp2;go_ret;refine⟨?_,hb⟩;rw[hgo.out,qJ (zBU HL.out)];rfl
structure zFP(C:Nat)(F:Nat->Nat->Int)(i:Nat)(last:Int):Prop where
 ok:∀k,k<i->zFW C F k
 lst:∀c:Nat,c<C->(last<c↔∀k,k<i->0<=lead C F k/\lead C F k<c)
theorem zFP.start(C:Nat)(F:Nat->Nat->Int):zFP C F 0 (-1):=
 ⟨fun k hk=>by omega,fun c hc=>⟨fun _ k hk=>by omega,fun _=>by omega⟩⟩
theorem zFP.zero(h:zFP C F i last)(hl:lead C F i<0):zFP C F (i+1) C:=
 ⟨fun k hk=>by
  by_cases e:k=i
  ·rw[e];exact .inl hl
  exact h.ok k oM,fun c hc=>⟨fun h=>by omega,fun h=>by have:=h i oM;omega⟩⟩
theorem zFP.row{c:Nat}(h:zFP C F i last)(hl:lead C F i=(c:Int)):
  zFW C F i↔last<c/\0<F i c/\∀k,k<i->0<=F k c/\F k c<F i c:=by
 have hz:=zDY hl;constructor
 ·rintro(h1|⟨c',h1,h2,h3,h4⟩)
  ·omega
  obtain rfl:c'=c:=by omega
  exact⟨(h.lst c' hz.1).2 h2,h3,h4⟩
 rintro⟨h2,h3,h4⟩;exact .inr ⟨c,hl,(h.lst c hz.1).1 h2,h3,h4⟩
theorem zFP.step{c:Nat}(h:zFP C F i last)(hl:lead C F i=(c:Int))(hr:zFW C F i):zFP C F (i+1) c:=by
 refine⟨fun k hk=>?_,fun d hd=>⟨fun hlt k hk=>?_,fun hk=>by have:=(hk i oM).2;omega⟩⟩
 ·by_cases e:k=i
  ·rw[e];exact hr
  exact h.ok k oM
 by_cases e:k=i
 ·rw[e];omega
 rcases hr with h1|⟨c',h1,h2,-⟩
 omega;have:=h2 k oM;omega
theorem zR9(v:Value)(R C:Int)(M:List (List Int))(w:World)(h:zAO w v R C M)(hS:∀r∈M,∀z∈r,Sm z):
  Calls Tryz.prog 83 #[v] w (zQW (zSz R C M) w):=by
 have h0:=h;obtain⟨A,rfl,h⟩:=h;obtain⟨ao,n,cap,rfl,e2,e3,e4,-⟩:=id h;have HX:=xgw e2;have HS:=xgv hS;clear e2 hS;by_cases hv:zBL R C M
 ·have hdv:=decide_eq_true hv
  have hv':=hv;obtain⟨v1,v2,v3,v4⟩:=hv;obtain⟨C',rfl⟩:=zBO v2;obtain rfl:R=(n:Int):=by rw[<-v3,HX.out]
  have hF:zBc n C' M:=⟨HX.out,fun r hr=>by have:=v4 r hr;omega⟩;have HF:=xgv hF;have hiff:Hid (zSz n C' M↔∀i,i<n->zFW C' (ent M) i):=xgw ⟨fun h=>by have:=h.2;rw[HX.out,zBd]at this;exact this,fun h=>⟨hv',by rw[HX.out,zBd];exact h⟩⟩;clear v1 v2 v3 v4 hv' hF;go_enter Tryz.func83,Tryz.ntmps83;go_upto_region 1 with(fail)
  refine zD ?_;intro W0 hW0;obtain⟨hB0,bx1,hs0⟩:=qM hW0;obtain⟨c1,c2,c3,c4,c5,c6⟩:=bx1.three;clear hW0;go_wp2_with fail
  refine(zIt _ n C' M W0 (h0.below hB0)).mono ?_;rintro e w1 ⟨rfl,hb1⟩;rw[hdv];have bx1:=bx1.below hb1;have hB1:=nx hB0 hb1;clear c1 c2 c3 c4 c5 c6 hdv;obtain⟨c1,c2,c3,c4,c5,c6⟩:=bx1.three;go_wp2;go_loopw [4,5] (fun lv iv wr=>∃(i:Nat) (last:Int),i<=n/\lv= .int .i64 last/\iv= .int .i64 i/\Below w.heap.size w wr/\Blk wr w.heap.size 32 #[.int .i64 n,.int .i64 C',.slice ao n cap]/\zAN (zFP C' (ent M) i last)) (fun _ iv _=>n-(intOf iv).toNat)
  case atStart=>exact⟨0,-1,by omega,rfl,rfl,hB1,bx1,⟨zFP.start _ _⟩⟩
  clear bx1 c1 c2 c3 c4 c5 c6;obtain⟨i,last,hi,rfl,rfl,hb,bx1,hinv⟩:=hrel;obtain⟨c1,c2,c3,c4,c5,c6⟩:=bx1.three;by_cases hlt:i<n
  ·obtain⟨b,ra,rn,rc,zs,rfl,hbl,hz,p1,hrv⟩:=(h.below hb).row (k:=i) (by rw[HX.out];exact hlt)
   obtain rfl:=HF.out.row_eq hz;have hrn:=hrv.len.1;rw[qC]at hrn;subst hrn;have HZ:=xgw hz;clear hz;go_wp2_with fail
   refine(zRz _ (yL C' (ent M i)) wr hrv).mono ?_;rintro e w7 ⟨rfl,hb7⟩;obtain⟨L,hL⟩:∃L,zCG 0 (yL C' (ent M i))=L:=⟨_,rfl⟩;rw[hL];have HL:=xgw (show lead C' (ent M) i=L from hL);have hb8:=nx hb hb7;have bx1:=bx1.below hb7;have hrv:=hrv.below hb7;have hrw:=h.below hb8;have p1:=(hb7.cell (p:=⟨b,i,none⟩) hbl).trans p1;have hbl:=zH hbl hb7.size;clear hL c1 c2 c3 c4 c5 c6;obtain⟨c1,c2,c3,c4,c5,c6⟩:=bx1.three;by_cases hneg:L<0
   ·have hd:decide (L<0)=true:=decide_eq_true hneg
    have HN:=xgw hneg;clear hneg;go_wp2;go_roundw
    case rel=>
     exact⟨i+1,C',by omega,rfl,by simp,hb8,bx1,⟨hinv.out.zero (by rw[HL.out];exact HN.out)⟩⟩
    case measure=>simp[intOf];omega
   obtain⟨c,rfl⟩:=zBO (Int.not_lt.1 hneg);have hcC:c<C':=(zDY HL.out).1;have HR:=xgw (hinv.out.row HL.out);have hno:¬ zFW C' (ent M) i->¬ zSz n C' M:=fun hr h=>hr (hiff.out.1 h i hlt)
   have HNO:=xgv hno;clear hno hneg;by_cases hle:(c:Int)<=last
   ·have HLE:=xgw hle
    have hd:decide ((c:Int)<=last)=true:=decide_eq_true hle;clear hle;go_wp2;go_ret;exact zQW.no (HNO.out (fun hr=>by have h1:=(HR.out.1 hr).1;have h2:=HLE.out;omega)) hb8
   have HLE:=xgw hle;have hd:decide ((c:Int)<=last)=false:=decide_eq_false hle;clear hle;obtain⟨bi,z,s,a,l,kz,rfl,hbi,hzk,q1,q2,hzv⟩:=hrv.cell (k:=c) (by rw[qC];exact hcC);have hze:z=ent M i c:=by
    rw[yE hcC]at hzk;exact(zX hzk).symm
   have HZE:=xgw hze;have hzS:zAN (Sm z):=⟨HS.out _ (xgd HZ.out) z (xgd hzk)⟩;clear hzk hze;go_wp2_with fail
   refine(zEv _ z w7 hzv).mono ?_;rintro e w9 ⟨rfl,hb9⟩;have bx1:=bx1.below hb9;have p1:=(hb9.cell (p:=⟨b,i,none⟩) hbl).trans p1;have q1:=(hb9.cell (p:=⟨bi,c*2,none⟩) hbi).trans q1;have q2:=(hb9.cell (p:=⟨bi,c*2+1,none⟩) hbi).trans q2;have hbl:=zH hbl hb9.size;have hbi:=zH hbi hb9.size;have hzv:=hzv.ext (lx hb9);have hrw:=hrw.below hb9;have hb9':=nx hb8 hb9;clear c1 c2 c3 c4 c5 c6 hrv;obtain⟨c1,c2,c3,c4,c5,c6⟩:=bx1.three;by_cases hx:z<=0
   ·obtain⟨k0,hk0⟩:∃k0,zAp z 0=k0:=⟨_,rfl⟩
    have n1:decide (k0<=0)=true:=decide_eq_true (by
     rw[<-hk0];rcases Int.lt_or_eq_of_le hx with h|h
     rw[zBW h];decide;rw[zCY h];decide)
    rw[hk0];have HXX:=xgw hx;clear hx hk0;go_wp2;go_ret;exact zQW.no (HNO.out (fun hr=>by have h1:=(HR.out.1 hr).2.1;have h2:=HXX.out;have h3:=HZE.out;omega)) hb9'
   rw[zCF oM];have HXX:=xgw hx;clear hx;go_wp2;go_loopw [7] (fun kv wt=>∃k:Nat,k<=i/\kv= .int .i64 k/\Below w9.heap.size w9 wt/\Hid (∀j,j<k->0<=ent M j c/\ent M j c<z)) (fun kv _=>i-(intOf kv).toNat)
   case atStart=>exact⟨0,by omega,rfl,zA _ _,xgw fun j h=>absurd h oM⟩
   rename World=>wt
   obtain⟨k,hk,rfl,hbt,hin⟩:=hrel;have bx1:=bx1.below hbt;clear c1 c2 c3 c4 c5 c6;obtain⟨c1,c2,c3,c4,c5,c6⟩:=bx1.three;have hbT:=nx hb9' hbt;by_cases hki:k<i
   ·have hkn:k<n:=by omega
    have p1:=(hbt.cell (p:=⟨b,i,none⟩) hbl).trans p1;have q1:=(hbt.cell (p:=⟨bi,c*2,none⟩) hbi).trans q1;have q2:=(hbt.cell (p:=⟨bi,c*2+1,none⟩) hbi).trans q2;have hzv:=hzv.ext (lx hbt);obtain⟨b',rb,rbn,rbc,zs,e1,hbl',hz',p3,hrk⟩:=(hrw.below hbt).row (k:=k) (by rw[HX.out];omega);cases e1;obtain rfl:=HF.out.row_eq hz';have hrn:=hrk.len.1;rw[qC]at hrn;subst hrn;obtain⟨bk,zk,sk,ak,lk,kk,rfl,hbk,hzk,o1,o2,hkv⟩:=hrk.cell (k:=c) (by rw[qC];exact hcC);have hke:zk=ent M k c:=by
     rw[yE hcC]at hzk;exact(zX hzk).symm
    have HKE:=xgw hke;have hkS:zAN (Sm zk):=⟨HS.out _ (xgd hz') zk (xgd hzk)⟩;have hci:c<C':=hcC;clear hzk hke hz' hrk;by_cases h0:zk<0
    ·have hs:∀Q,jT Q (.agg #[.bool sk,.slice ak lk kk]) zk->Calls Tryz.prog 48 #[.agg #[.bool sk,.slice ak lk kk]] Q fun e w'=>e= .returned (.int .i64 (-1))/\Below Q.heap.size Q w':=fun Q hq=>by
      have:=zEv _ zk Q hq;rwa[zBW h0]at this
     have H0:=xgw h0;clear h0;go_upto_region 16 with(fail)
     refine zCn [pcD 8 [] (fun _ v=>v= .int .i64 (-1))] ?_;refine sRd ?_;refine sRc (fun wS hI Gk hG=>?_) (fun _ hv=>?_)
     ·go_simp
      refine(hs _ (hkv.ext (lx hI.bel))).mono ?_
      (rintro e wa ⟨rfl,hba⟩;have hv:(Value.int .i64 (-1))= .int .i64 (-1):=rfl)
      exact⟨_,rfl,hG _ _ hv,hba⟩
     obtain⟨_,-,rfl⟩:=hv;refine sRd ?_;refine sRe ?_;intro w2 hbw2 _;have hbE:=nx hbT hbw2;go_wp2;go_ret;exact zQW.no (HNO.out (fun hr=>by have h1:=((HR.out.1 hr).2.2 k hki).1;have h2:=H0.out;have h3:=HKE.out;omega)) hbE
    obtain⟨k1,hk1⟩:∃k,zAp zk 0=k:=⟨_,rfl⟩;obtain⟨k2,hk2⟩:∃k,zAp zk z=k:=⟨_,rfl⟩;have hs:∀Q,jT Q (.agg #[.bool sk,.slice ak lk kk]) zk->Calls Tryz.prog 48 #[.agg #[.bool sk,.slice ak lk kk]] Q fun e w'=>e= .returned (.int .i64 k1)/\Below Q.heap.size Q w':=fun Q hq=>by
     have:=zEv _ zk Q hq;rwa[hk1]at this
    have hc:∀Q,jT Q (.agg #[.bool sk,.slice ak lk kk]) zk->jT Q (.agg #[.bool s,.slice a l kz]) z->Calls Tryz.prog 46 #[.agg #[.bool sk,.slice ak lk kk],.agg #[.bool s,.slice a l kz]] Q fun e w'=>e= .returned (.int .i64 k2)/\Below Q.heap.size Q w':=fun Q h1 h2=>by
     have:=zSB _ _ zk z Q h1 h2 hkS.out hzS.out;rwa[hk2]at this
    have n1:decide (k1<0)=false:=decide_eq_false (by rw[<-hk1];have:=zIS h0;omega);have n2:decide (0<=k2)=decide (z<=zk):=decide_eq_decide.2 (by
     rw[<-hk2];constructor
     ·intro h
      rcases zCf zk z with h1|h1
      rw[zBW h1]at h;omega;exact h1
     intro h;exact zDi oM)
    obtain⟨d,hd⟩:∃d,decide (0<=k2)=d:=⟨_,rfl⟩;have HD:=xgw (hd.symm.trans n2);have H0:=xgw h0;clear n2 h0 hk1 hk2;go_upto_region 16 with(fail)
    refine zCn [pcD 8 [] (fun _ v=>v= .int .i64 k1),pcD 27 [] (fun _ v=>v= .int .i64 k2)] ?_;refine sRd ?_;refine sRc (fun wS hI Gk hG=>?_) (fun _ hv=>?_)
    ·go_simp
     refine(hs _ (hkv.ext (lx hI.bel))).mono ?_
     (rintro e wa ⟨rfl,hba⟩;have hv:(Value.int .i64 k1)= .int .i64 k1:=rfl)
     exact⟨_,rfl,hG _ _ hv,hba⟩
    obtain⟨_,-,rfl⟩:=hv;refine sRd ?_;refine sRc (fun wS hI Gk hG=>?_) (fun _ hv=>?_)
    ·go_simp
     refine(hc _ (hkv.ext (lx hI.bel)) (hzv.ext (lx hI.bel))).mono ?_
     (rintro e wa ⟨rfl,hba⟩;have hv:(Value.int .i64 k2)= .int .i64 k2:=rfl)
     exact⟨_,rfl,hG _ _ hv,hba⟩
    obtain⟨_,-,rfl⟩:=hv;refine sRd ?_;refine sRe ?_;intro w2 hbw2 _ _;have hbE:=nx hbT hbw2;cases d
    ·go_wp2
     go_roundw
     case rel=>
      refine⟨k+1,by omega,by simp,nx hbt hbw2,xgw fun j hj=>?_⟩;by_cases e:j=k
      ·subst e
       rw[<-HKE.out];have h1:=of_decide_eq_false HD.out.symm;have h2:=H0.out;omega
      exact hin.out j oM
     case measure=>simp[intOf];omega
    go_wp2;go_ret;exact zQW.no (HNO.out (fun hr=>by have h1:=((HR.out.1 hr).2.2 k hki).2;have h2:=of_decide_eq_true HD.out.symm;have h3:=HKE.out;have h4:=HZE.out;omega)) hbE
   obtain rfl:k=i:=by omega
   go_wp2;go_roundw
   case rel=>
    exact⟨k+1,c,by omega,rfl,by simp,hbT,bx1,⟨hinv.out.step HL.out (HR.out.2 ⟨by have:=HLE.out;omega,by have h1:=HXX.out;have h2:=HZE.out;omega,fun j hj=>by rw[<-HZE.out];exact hin.out j hj⟩)⟩⟩
   case measure=>simp[intOf];omega
  obtain rfl:i=n:=by omega
  go_wp2;go_ret;exact zQW.yes (hiff.out.2 fun k hk=>hinv.out.ok k hk) hb
 have hdv:=decide_eq_false hv;have hno:¬ zSz R C M:=fun h=>hv h.1
 have HNO:=xgv hno;clear hv hno;go_enter Tryz.func83,Tryz.ntmps83;go_upto_region 1 with(fail)
 refine zD ?_;intro W0 hW0;obtain⟨hB0,bx1,hs0⟩:=qM hW0;obtain⟨c1,c2,c3,c4,c5,c6⟩:=bx1.three;clear hW0;go_wp2_with fail
 refine(zIt _ R C M W0 (h0.below hB0)).mono ?_;rintro e w1 ⟨rfl,hb1⟩;rw[hdv];go_wp2;go_ret;exact zQW.no HNO.out (nx hB0 hb1)
def quo(C:Nat)(F:Nat->Nat->Int)(r:Nat->Int)(i:Nat):Int:=if lead C F i<0 then 0 else r (lead C F i).toNat/F i (lead C F i).toNat
def zEm(C:Nat)(F:Nat->Nat->Int)(x:Nat->Int):Nat->Nat->Int
 |0=>x
 |i+1=>fun t=>zEm C F x i t+-(quo C F (zEm C F x i) i)*F i t
def zFV(C:Nat)(F:Nat->Nat->Int)(x:Nat->Int)(i:Nat):Int:=quo C F (zEm C F x i) i
structure zX6(B R C:Nat)(F:Nat->Nat->Int)(x:Nat->Int):Prop where
 mat:okF B R C F
 rest:∀i,i<=R->∀t,t<C->(zEm C F x i t).natAbs<B
 quot:∀i,i<R->(zFV C F x i).natAbs<B/\∀t,t<C->(-(zFV C F x i)*F i t).natAbs<B
theorem mkV(m:Int)(n:Nat)(hm:m=n)(h:n<=1099511627776)(W:World):
  (Instr.makeSlice 57 (.int .i64 m) (.int .i64 m)).run Tryz.prog W= .ok (.slice (some ⟨W.heap.size,0,none⟩) n n) (W.alloc (.cells (zeroCells n) tI)):=by
 subst hm;obtain⟨i0,hi,hz0,hz1,hz2⟩:=info_parts zD8;have:=zCR (P:=Tryz.prog) 57 tI i0 _ Tryz.underlying57 hi hz0 .i64 .i64 n n (xgf _) (by rw[hz2];omega) oM W;rw[this,hz1];rfl
def zUm(lo n:Nat):World->Value->Prop:=fun w v=>∃b,v= .slice (some ⟨b,0,none⟩) n n/\lo<=b/\jQ w b (yL n fun _=>0)
theorem zIj(lo n:Nat):zAQ (zUm lo n):=fun _ _ _ hb ⟨b,h1,h2,h3⟩=>⟨b,h1,h2,h3.below hb⟩
theorem zOp{lo:Nat}(hlo:lo<=w.heap.size):zUm lo n (w.alloc (.cells (zeroCells n) tI)) (.slice (some ⟨w.heap.size,0,none⟩) n n):=
 ⟨_,rfl,hlo,by
  have h:=zG4 w n
  rwa[show List.replicate n (0:Int)=yL n fun _=>0 from qO (by simp[yL]) fun i h1 h2=>by simp[yL]]at h⟩
def zYa(u v:Value):Prop:=∀a b n m c d,u= .slice (some ⟨a,0,none⟩) n c->v= .slice (some ⟨b,0,none⟩) m d->a≠b
theorem zPJ(a b:Int):zAQ (DMV a b):=fun _ _ _ x ⟨q,r,h1,h2,h3⟩=>⟨q,r,h1,h2.ext (lx x),h3.ext (lx x)⟩
def zU7(a b:Nat)(T:Array Value)(w:World):World:=
 match T[a]?,T[b]? with
 |some (.pointer (some ⟨g,o,none⟩)),some (.agg #[x,y])=>(w.setCell ⟨g,o,none⟩ x).setCell ⟨g,o+1,none⟩ y
 |_,_=>w
theorem zHU{o:Nat}{x y:Value}(h1:T[a]?=some (.pointer (some ⟨g,o,none⟩)))(h2:T[b]?=some (.agg #[x,y])):zU7 a b T w=(w.setCell ⟨g,o,none⟩ x).setCell ⟨g,o+1,none⟩ y:=by
 unfold zU7;rw[h1,h2];rfl
theorem zIF{c:Nat}(h1:c≠a)(h2:c≠b):zU7 a b (T.setIfInBounds c v) w=zU7 a b T w:=by
 unfold zU7;rw[xgc h1,xgc h2]
theorem zTy{W:World}(h:zBr [] W w):Below W.heap.size W w:=⟨h.bel.os,h.bel.tape,h.bel.output,h.bel.size,fun k hk=>h.old k hk sI⟩
theorem zKN(f g:Nat->Int):yL n (yO f g n)=yL n f:=qX fun t ht=>by unfold yO;rw[if_pos ht]
theorem zKO(f g:Nat->Int):yL n (yO f g 0)=yL n g:=qX fun t _=>by unfold yO;rw[if_neg oM]
theorem zMX{j:Nat}(f g:Nat->Int):(yL n (yO f g j)).set j (f j)=yL n (yO f g (j+1)):=by
 rw[zDs];exact qX fun t _=>by
  unfold yO;by_cases h2:t=j
  ·subst h2;rw[if_pos rfl,if_pos oM]
  rw[if_neg h2];by_cases h1:t<j
  ·rw[if_pos h1,if_pos oM]
  rw[if_neg h1,if_neg oM]
theorem zNk{fn:Func}{a b c:Tmp}(h:fn.results=#[.tmp a,.tmp b,.tmp c])(tmps:Array Value)(P:Program)(W:World):(results fn tmps).run P W= .ok (.tuple #[tmps.getD a undef,tmps.getD b undef,tmps.getD c undef]) W:=by
 simp[results,h]
def zWm(R C:Nat)(q r:Nat->Int)(w:World)(e:Ending)(w':World):Prop:=∃qv rv,e= .returned (.tuple #[qv,rv,.int .i64 0])/\zBm w' qv (yL R q)/\zBm w' rv (yL C r)/\Below w.heap.size w w'
theorem zHm{B:Nat}(hB:BSd B)(hv vv:Value)(R C:Nat)(M:List (List Int))(x:Nat->Int)(w:World)(h:zAO w hv R C M)(hF:zBc R C M)(hx:zBm w vv (yL C x))(hR:R<=1000000)(hC:C<=1000000)(hok:zX6 B R C (ent M) x)(hB0:0<B):
  Calls Tryz.prog 118 #[hv,vv] w (zWm R C (zFV C (ent M) x) (zEm C (ent M) x R) w):=by
 have h0:=h;obtain⟨A,rfl,h⟩:=h;obtain⟨ao,n,cap,rfl,e2,e3,e4,-⟩:=id h;obtain rfl:R=n:=by rw[<-e2,hF.1]
 obtain⟨xo,xn,xcap,rfl,x2,x3,x4,-⟩:=id hx;rw[qC]at x2;subst x2;have hdv:decide (zBL R C M)=true:=decide_eq_true hF.valid;have HF:=xgv hF;have HOK:=xgv hok;have H0:=xgv h0;have HR:=xgv h;have HX:=xgv hx;have HB0:=xgv hB0;clear hok h0 hF e2 h hx hB0;go_enter Tryz.func118,Tryz.ntmps118;go_upto_region 1 with(fail)
 refine zD ?_;intro W0 hW0;obtain⟨hb0,bx1,hs0⟩:=qM hW0;obtain⟨c1,c2,c3,c4,c5,c6⟩:=bx1.three;clear hW0;go_wp2_with fail
 refine(zDH _ R C M W0 (H0.out.below hb0)).mono ?_;rintro e w1 ⟨rfl,hb1⟩;rw[hdv];have bx1:=bx1.below hb1;have hb:=nx hb0 hb1;clear c1 c2 c3 c4 c5 c6 hdv;obtain⟨c1,c2,c3,c4,c5,c6⟩:=bx1.three;have hmkR:=fun W=>mkV (R:Int) R rfl oM W
 have hmkC:=fun W=>mkV (C:Int) C rfl oM W
 have hl1:=zIj w1.heap.size R;have hl2:=zIj w1.heap.size C;go_upto_region 3 with(fail)
 refine zCx rfl (RVP 2 26 5 29 zYa [⟨6,7,2,26⟩,⟨7,8,5,29⟩] w1 _ [⟨0,24,fun _ v=>v= .pointer (some ⟨w.heap.size,0,none⟩)⟩,⟨1,25,fun _ v=>v= .int .i64 R⟩,⟨2,26,zUm w1.heap.size R⟩,⟨3,27,fun _ v=>v= .pointer (some ⟨w.heap.size,1,none⟩)⟩,⟨4,28,fun _ v=>v= .int .i64 C⟩,⟨5,29,zUm w1.heap.size C⟩,⟨6,7,zUm w1.heap.size R⟩,⟨7,8,zUm w1.heap.size C⟩]) kR (RVP.start kR (by repeat' (first|exact zDG _|exact zDx _|exact zBn _ _ _|exact zBa _|assumption|refine xgm.2 ⟨?_,?_⟩|exact xgn _)) ⟨_,mm2⟩ ⟨_,mm5⟩ dE kR) ?fin1 ?steps1
 case steps1=>
  (repeat' constructor)<;>(intro L T wS hL hd hcl hI K hK;try refine zK rfl ?_)
  ·have zt:T[2]?=some (.pointer (some ⟨w.heap.size,0,none⟩)):=hI.keep 2 sI
   go_simp;exact hK _ _ (hI.y mm0 rfl)
  ·obtain⟨_,zt0,rfl⟩:=hI.v mm0 (hd 0)
   have cc0:=hI.cell c1;go_simp;exact hK _ _ (hI.y mm1 rfl)
  ·obtain⟨_,zt1,rfl⟩:=hI.v mm1 (hd 1)
   go_simp;exact hK _ _ ((hI.world ((zA _ _).alloc (xgf _) _)).y mm2 (zOp hI.bel.size) (fun u=>⟨fun _ hu hl=>by obtain⟨v',q1,b',q2,q3,q4⟩:=hI.v mm5 hl;have:=q4.lt;cases q1.symm.trans hu;intro a b n m c d e1 e2;subst q2;cases e1;cases e2;omega,fun e=>absurd e dE⟩))
  ·have zt:T[2]?=some (.pointer (some ⟨w.heap.size,0,none⟩)):=hI.keep 2 sI
   go_simp;exact hK _ _ (hI.y mm3 rfl)
  ·obtain⟨_,zt3,rfl⟩:=hI.v mm3 (hd 3)
   have cc0:=hI.cell c2;go_simp;exact hK _ _ (hI.y mm4 rfl)
  ·obtain⟨_,zt4,rfl⟩:=hI.v mm4 (hd 4)
   go_simp;exact hK _ _ ((hI.world ((zA _ _).alloc (xgf _) _)).y mm5 (zOp hI.bel.size) (fun u=>⟨fun e=>absurd e dE,fun _ hu hl=>by obtain⟨v',q1,b',q2,q3,q4⟩:=hI.v mm2 hl;have:=q4.lt;cases q1.symm.trans hu;intro a b n m c d e1 e2;subst q2;cases e1;cases e2;omega⟩))
  ·obtain⟨vc,ztc,hcv⟩:=hI.v mm2 (hd 2)
   go_simp;exact hK _ _ (hI.y mm6 hcv (hc:=.inr (by repeat' (first|refine xgm.2 ⟨?_,?_⟩|exact xgn _|(intro e;exact absurd e dE)|(intro _;exact⟨hd 2 kR,ztc⟩)))))
  obtain⟨vc,ztc,hcv⟩:=hI.v mm5 (hd 5);go_simp;exact hK _ _ (hI.y mm7 hcv (hc:=.inr (by repeat' (first|refine xgm.2 ⟨?_,?_⟩|exact xgn _|(intro e;exact absurd e dE)|(intro _;exact⟨hd 5 kR,ztc⟩)))))
 intro T w3 hI;obtain⟨va0,q0,rfl⟩:=hI.v mm0 rfl;obtain⟨va1,q1,rfl⟩:=hI.v mm1 rfl;obtain⟨va2,q2,ha2⟩:=hI.v mm2 rfl;obtain⟨va3,q3,rfl⟩:=hI.v mm3 rfl;obtain⟨va4,q4,rfl⟩:=hI.v mm4 rfl;obtain⟨va5,q5,ha5⟩:=hI.v mm5 rfl;obtain⟨va6,q6,ha6⟩:=hI.v mm6 rfl;obtain⟨va7,q7,ha7⟩:=hI.v mm7 rfl;have hT:=zED [(24,.pointer (some ⟨w.heap.size,0,none⟩)),(25,.int .i64 R),(26,va2),(27,.pointer (some ⟨w.heap.size,1,none⟩)),(28,.int .i64 C),(29,va5),(7,va6),(8,va7)]
  (fun j hj=>hI.keep j (by simp only[xgm]at hj ⊢;simp[hj]))
  (by simp only[xgm];simp[q0,q1,q2,q3,q4,q5,q6,q7]) hI.size
 obtain⟨paa,pba,pua,pva,pqa⟩:=hI.pair rfl rfl;have pca:=hI.cpy;have hbw3:=hI.bel;clear hI;simp only[List.foldl_cons,List.foldl_nil,xgh,xgi,xgj,ptr]at hT;subst hT;clear q0 q1 q2 q3 q4 q5 q6 q7;have e6:va6=va2:=zX (pca _ mm0 rfl).2;have e7:va7=va5:=zX (pca _ mm1 rfl).2;have e8:va2=paa:=zX pua;have e9:va5=pba:=zX pva;subst e6 e7 e8 e9;obtain⟨qb,rfl,hq1,hq2⟩:zUm w1.heap.size R w3 va6:=ha6;obtain⟨rb,rfl,hr1,hr2⟩:zUm w1.heap.size C w3 va7:=ha7;have hqr:qb≠rb:=pqa _ _ _ _ _ _ rfl rfl;have hl01:=bx1.lt;have hb3:=nx hb hbw3;have bx1:=bx1.below hbw3;have hsz1:=hb.size;clear pca pqa ha2 ha5 hmkR hmkC hl1 hl2 c1 c2 c3 c4 c5 c6;obtain⟨c1,c2,c3,c4,c5,c6⟩:=bx1.three;have hrs:jQ w3 rb (yL C (yO x (fun _=>0) 0)):=by rw[zKO];exact hr2
 clear hr2;go_wp2;go_loopw [32] (fun jv wr=>∃j:Nat,j<=C/\jv= .int .i64 j/\Below w.heap.size w wr/\Blk wr w.heap.size 32 #[.int .i64 R,.int .i64 C,.slice ao R cap]/\jQ wr qb (yL R fun _=>0)/\jQ wr rb (yL C (yO x (fun _=>0) j))) (fun jv _=>C-(intOf jv).toNat)
 case atStart=>exact⟨0,by omega,rfl,hb3,bx1,hq2,hrs⟩
 clear bx1 hq2 hrs c1 c2 c3 c4 c5 c6;obtain⟨j,hj,rfl,hbr,bx1,hq2,hrs⟩:=hrel;by_cases hlt:j<C
 ·obtain⟨bx,z,s,a,l,k,rfl,hbx,hz,p1,p2,hzv⟩:=(HX.out.below hbr).cell (k:=j) (by rw[qC];exact hlt)
  rw[yE hlt]at hz;obtain rfl:x j=z:=zX hz;clear hz;go_upto_region 7 with(fail)
  refine zD ?_;intro W6 hW6;obtain⟨hB6,T6,hs6⟩:=qM hW6;have bx1:=bx1.below hB6;have hq2:=hq2.below hB6;have hrs:=hrs.below hB6;have hzv:=hzv.ext (lx hB6);have hbr:=nx hbr hB6;have sx:zAN (Sm (x j)):=⟨hB.bsm.sm _ (HOK.out.rest 0 (zE _) j hlt)⟩;have sz:zAN (Sm (0:Int)):=⟨hB.bsm.sm _ (by simpa using HB0.out)⟩;obtain⟨t1,t2,t3,t4⟩:=T6.two;clear p1 p2 hW6;go_wp2_with fail
  refine(zHE _ _ (x j) 0 W6 hzv.weak (zFc W6).weak sx.out sz.out).mono ?_;rintro e w7 ⟨u,rfl,hu,hb7⟩;rw[jZ]at hu;obtain⟨un,ua,ul,uc,ux,rfl,hu'⟩:=id hu;have HU:=xgw hu';have bx1:=bx1.below hb7;have hq2:=hq2.below hb7;have hrs:=hrs.below hb7;have hbr:=nx hbr hb7;clear hu' t1 t2 t3 t4;obtain⟨z0,z1,z2,z3,f1,f2,f3,f4,-⟩:=hrs.cell (yE hlt);have hset:=hrs.set (k:=j) (by rw[qC];exact hlt) hu;rw[zMX]at hset;have lb:=bx1.lt;have lq:=hq2.lt;go_wp2;go_roundw
  case rel=>
   exact⟨j+1,by omega,by simp,yJ (yJ hbr oM _ _) oM _ _,(yS _ _ _ _ _ _ _ oM).trans bx1,hq2.old (yS _ _ _ _ _ _ _ hqr) hset.2,hset.1⟩
  case measure=>simp[intOf];omega
 obtain rfl:j=C:=by omega
 rw[zKN]at hrs;obtain⟨c1,c2,c3,c4,c5,c6⟩:=bx1.three;have hqs:jQ wr qb (yL R (yO (zFV j (ent M) x) (fun _=>0) 0)):=by rw[zKO];exact hq2
 clear hq2;go_wp2;go_loopw [47] (fun iv wt=>∃i:Nat,i<=R/\iv= .int .i64 i/\Below w.heap.size w wt/\jQ wt qb (yL R (yO (zFV j (ent M) x) (fun _=>0) i))/\jQ wt rb (yL j (zEm j (ent M) x i))) (fun iv _=>R-(intOf iv).toNat)
 case atStart=>exact⟨0,by omega,rfl,hbr,hqs,hrs⟩
 rename World=>wt
 clear hbr hqs hrs bx1 c1 c2 c3 c4 c5 c6;obtain⟨i,hi,rfl,hbt,hqs,hrs⟩:=hrel;by_cases hlt:i<R
 ·obtain⟨b,ra,rn,rc,zs,rfl,hbl,hz,p1,hrv0⟩:=HR.out.row (k:=i) (by rw[HF.out.1];exact hlt)
  obtain rfl:=HF.out.row_eq hz;have hrn:=hrv0.len.1;have p1:=(hbt.cell (p:=⟨b,i,none⟩) hbl).trans p1;have hrv:=hrv0.below hbt;rw[qC]at hrn;subst hrn;clear hz;go_wp2_with fail
  refine(zEc _ (yL j (ent M i)) wt hrv).mono ?_;rintro e w7 ⟨rfl,hb7⟩;obtain⟨d,hd⟩:∃d,zCG 0 (yL j (ent M i))=d:=⟨_,rfl⟩;rw[hd];have HD:=xgw (show lead j (ent M) i=d from hd);have hbt:=nx hbt hb7;have hqs:=hqs.below hb7;have hrs:=hrs.below hb7;have hrv:=hrv.below hb7;clear hd p1;by_cases hneg:d<0
  ·have hdn:decide (0<=d)=false:=decide_eq_false oM
   have HN:=xgw hneg;clear hneg;go_wp2;go_roundw
   case rel=>
    have hqz:zFV j (ent M) x i=0:=by unfold zFV quo;rw[if_pos (by rw[HD.out];exact HN.out)]
    have e1:yL R (yO (zFV j (ent M) x) (fun _=>0) i)=yL R (yO (zFV j (ent M) x) (fun _=>0) (i+1)):=qX fun t _=>by
     unfold yO;by_cases h1:t<i
     ·rw[if_pos h1,if_pos oM]
     by_cases h2:t=i
     ·rw[if_neg h1,if_pos oM,h2,hqz]
     rw[if_neg h1,if_neg oM]
    have e2:yL j (zEm j (ent M) x i)=yL j (zEm j (ent M) x (i+1)):=qX fun t _=>by
     show _=zEm j (ent M) x i t+-(zFV j (ent M) x i)*ent M i t;rw[hqz];omega
    rw[e1]at hqs;rw[e2]at hrs;exact⟨i+1,by omega,by simp,hbt,hqs,hrs⟩
   case measure=>simp[intOf];omega
  obtain⟨c,rfl⟩:=zBO (Int.not_lt.1 hneg);obtain⟨hcC,hcz⟩:=zDY HD.out;have hqe:zFV j (ent M) x i=zEm j (ent M) x i c/ent M i c:=by unfold zFV quo;rw[HD.out,if_neg hneg];rfl
  obtain⟨y,hy⟩:∃y,zEm j (ent M) x i c=y:=⟨_,rfl⟩;obtain⟨p,hp⟩:∃p,ent M i c=p:=⟨_,rfl⟩;obtain⟨q,hq⟩:∃q,zFV j (ent M) x i=q:=⟨_,rfl⟩;have hyB:zAN (Sm y):=⟨by rw[<-hy];exact hB.bsm.sm _ (HOK.out.rest i oM c hcC)⟩;have hpB:zAN (Sm p):=⟨by rw[<-hp];exact hB.bsm.sm _ (HOK.out.mat i hlt c hcC)⟩;have hqB:zAN (q.natAbs<B/\∀t,t<j->(-q*ent M i t).natAbs<B):=⟨by rw[<-hq];exact HOK.out.quot i hlt⟩;have hp0:zAN (p≠0):=⟨by rw[<-hp];exact hcz⟩;rw[hq,hy,hp]at hqe;obtain⟨_,_,_,e1,-,g1,g2,g5⟩:=id hrv0;cases e1;obtain⟨bi,rfl,hrow⟩:=g5 (fun h=>by have:=congrArg List.length h;rw[qC]at this;simp at this;omega);have hbi:=hrow.lt;have hrow7:=hrow.below hbt;obtain⟨s,a,l,k,q1,q2,-,-,hzv⟩:=hrow7.cell (yE hcC);rw[hp]at hzv;clear g5;obtain⟨s2,a2,l2,k2,o1,o2,-,-,hov⟩:=hrs.cell (yE hcC);rw[hy]at hov;have HY:=xgw hy;have HP:=xgw hp;have HQ:=xgw hq;have HQE:=xgw hqe;have lq:=hqs.lt;have lr:=hrs.lt;have hl3:=zPJ y p;have hl4:zAQ (fun _ _=>True):=fun _ _ _ _ _=>trivial
  clear hy hp hq hqe hcz hneg hrv hrv0;go_upto_region 14 with(fail)
  refine zCx rfl (RAS ([]) 99 w7 _ [⟨0,57,fun _ v=>v= .slice (some ⟨qb,0,none⟩) R R⟩,⟨1,58,fun _ v=>v= .int .i64 i⟩,⟨2,59,fun _ v=>v= .slice (some ⟨rb,0,none⟩) j j⟩,⟨3,60,fun _ v=>v= .int .i64 c⟩,⟨4,61,fun _ v=>v= .pointer (some ⟨rb,c*2,none⟩)⟩,⟨5,62,fun _ v=>v= .agg #[.bool s2,.slice a2 l2 k2]⟩,⟨6,63,fun _ v=>v= .slice (some ⟨bi,0,none⟩) j rc⟩,⟨7,64,fun _ v=>v= .int .i64 c⟩,⟨8,65,fun _ v=>v= .pointer (some ⟨bi,c*2,none⟩)⟩,⟨9,66,fun _ v=>v= .agg #[.bool s,.slice a l k]⟩,⟨10,67,DMV y p⟩,⟨11,56,DMV y p⟩,⟨12,68,fun w v=>jT w v (y/p)⟩,⟨13,69,fun _ _=>True⟩,⟨14,70,fun _ v=>v= .int .i64 0⟩,⟨15,71,fun _ v=>v= .pointer (some ⟨qb,i*2,none⟩)⟩] 16 (zU7 71 68)) kR (zEX (zE3 kR (by repeat' (first|exact zDG _|exact zDx _|exact zBn _ _ _|exact zBa _|assumption|refine xgm.2 ⟨?_,?_⟩|exact xgn _)))) ?fin2 ?steps2
  case steps2=>
   refine⟨?_,?_,?_,?_,?_,?_,?_,?_,?_,?_,?_,?_,?_,?_,?_,?_,?_,trivial⟩
   ·refine yM.liftA kR dE ?_
    intro L T wS hL hd hcl hI K hK;try refine zK rfl ?_
    have zt:T[7]?=some (.slice (some ⟨qb,0,none⟩) R R):=hI.keep 7 sI;go_simp;exact hK _ _ (hI.y mm0 rfl)
   ·refine yM.liftA kR dE ?_
    intro L T wS hL hd hcl hI K hK;try refine zK rfl ?_
    have zt:T[11]?=some (.int .i64 i):=hI.keep 11 sI;go_simp;exact hK _ _ (hI.y mm1 rfl)
   ·refine yM.liftA kR dE ?_
    intro L T wS hL hd hcl hI K hK;try refine zK rfl ?_
    have zt:T[8]?=some (.slice (some ⟨rb,0,none⟩) j j):=hI.keep 8 sI;go_simp;exact hK _ _ (hI.y mm2 rfl)
   ·refine yM.liftA kR dE ?_
    intro L T wS hL hd hcl hI K hK;try refine zK rfl ?_
    have zt:T[13]?=some (.int .i64 c):=hI.keep 13 sI;go_simp;exact hK _ _ (hI.y mm3 rfl)
   ·refine yM.liftA kR dE ?_
    intro L T wS hL hd hcl hI K hK;try refine zK rfl ?_
    obtain⟨_,zt2,rfl⟩:=hI.v mm2 (hd 2);obtain⟨_,zt3,rfl⟩:=hI.v mm3 (hd 3);go_simp;exact hK _ _ (hI.y mm4 rfl)
   ·refine yM.liftA kR dE ?_
    intro L T wS hL hd hcl hI K hK;try refine zK rfl ?_
    obtain⟨_,zt4,rfl⟩:=hI.v mm4 (hd 4);have cc0:=hI.cell (sI) oM o1;have cc1:=hI.cell (sI) oM o2;go_simp;exact hK _ _ (hI.y mm5 rfl)
   ·refine yM.liftA kR dE ?_
    intro L T wS hL hd hcl hI K hK;try refine zK rfl ?_
    have zt:T[12]?=some (.slice (some ⟨bi,0,none⟩) j rc):=hI.keep 12 sI;go_simp;exact hK _ _ (hI.y mm6 rfl)
   ·refine yM.liftA kR dE ?_
    intro L T wS hL hd hcl hI K hK;try refine zK rfl ?_
    have zt:T[13]?=some (.int .i64 c):=hI.keep 13 sI;go_simp;exact hK _ _ (hI.y mm7 rfl)
   ·refine yM.liftA kR dE ?_
    intro L T wS hL hd hcl hI K hK;try refine zK rfl ?_
    obtain⟨_,zt6,rfl⟩:=hI.v mm6 (hd 6);obtain⟨_,zt7,rfl⟩:=hI.v mm7 (hd 7);go_simp;exact hK _ _ (hI.y mm8 rfl)
   ·refine yM.liftA kR dE ?_
    intro L T wS hL hd hcl hI K hK;try refine zK rfl ?_
    obtain⟨_,zt8,rfl⟩:=hI.v mm8 (hd 8);have cc0:=hI.cell (sI) oM q1;have cc1:=hI.cell (sI) oM q2;go_simp;exact hK _ _ (hI.y mm9 rfl)
   ·refine yM.liftA kR dE ?_
    intro L T wS hL hd hcl hI K hK;try refine zK rfl ?_
    obtain⟨_,zt5,rfl⟩:=hI.v mm5 (hd 5);obtain⟨_,zt9,rfl⟩:=hI.v mm9 (hd 9);go_simp;refine(zKX _ _ y p _ (hov.ext hI.onl.lext).weak (hzv.ext hI.onl.lext).weak hyB.out hpB.out hp0.out).mono ?_;rintro e wa ⟨v,rfl,hv,hba⟩;exact hK _ _ ((hI.world hba).y zJE hv)
   ·refine yM.liftA kR dE ?_
    intro L T wS hL hd hcl hI K hK;try refine zK rfl ?_
    obtain⟨v10,zt10,h10⟩:=hI.v zJE (hd 10);go_simp;exact hK _ _ (hI.y zJF h10)
   ·refine yM.liftA kR dE ?_
    intro L T wS hL hd hcl hI K hK;try refine zK rfl ?_
    obtain⟨v11,zt11,h11⟩:=hI.v zJF (hd 11);obtain⟨qq,rr,rfl,hq,hr⟩:=h11;go_simp;exact hK _ _ (hI.y zJO hq)
   ·intro L T wS hL hd hcl hI K hK
    try refine zK rfl ?_
    obtain⟨w0,hJ,-,-⟩:=id hI;obtain⟨z11,zt11,hz11⟩:=hJ.val _ zJF (hd 11);obtain⟨qq,rr,rfl,hq,hr⟩:DMV y p w0 z11:=hz11;go_simp;exact hK _ _ (hI.pure ⟨13,69,_⟩ zNL rfl (fun _=>trivial) dE (fun _=>zIF dE dE))
   ·intro L T wS hL hd hcl hI K hK
    try refine zK rfl ?_
    obtain⟨w0,hJ,-,-⟩:=id hI;obtain⟨z11,zt11,hz11⟩:=hJ.val _ zJF (hd 11);obtain⟨qq,rr,rfl,hq,hr⟩:DMV y p w0 z11:=hz11;go_simp;exact hK _ _ (hI.pure ⟨14,70,_⟩ zNM rfl (fun _=>rfl) dE (fun _=>zIF dE dE))
   ·refine yM.liftA kR dE ?_
    intro L T wS hL hd hcl hI K hK;try refine zK rfl ?_
    obtain⟨_,zt0,rfl⟩:=hI.v mm0 (hd 0);obtain⟨_,zt1,rfl⟩:=hI.v mm1 (hd 1);go_simp;exact hK _ _ (hI.y zMc rfl)
   intro L T wS hL hd hcl hI K hK;try refine zK rfl ?_
   replace hI:=hI.here hL;obtain⟨_,zt15,rfl⟩:=hI.v zMc (hd 15);obtain⟨z12,zt12,hz12⟩:=hI.v zJO (hd 12);obtain⟨vneg,vao,vlen,vcap,vls,rfl,hv'⟩:=id hz12;obtain⟨_,_,_,_,k1,k2,k3,k4,-⟩:=(hqs.only hI.onl sI).cell (yE hlt);go_simp;exact hK _ _ (zEY hI hL (by repeat' (first|exact xgn _|refine xgm.2 ⟨by dsimp only;decide,?_⟩)) dE (zHU zt15 zt12).symm)
  intro T w8f hJ;obtain⟨w8,hI,-,hstw8⟩:=hJ;replace hstw8:=hstw8 kR;obtain⟨vz0,q0,rfl⟩:=hI.v mm0 rfl;obtain⟨vz1,q1,rfl⟩:=hI.v mm1 rfl;obtain⟨vz2,q2,rfl⟩:=hI.v mm2 rfl;obtain⟨vz3,q3,rfl⟩:=hI.v mm3 rfl;obtain⟨vz4,q4,rfl⟩:=hI.v mm4 rfl;obtain⟨vz5,q5,rfl⟩:=hI.v mm5 rfl;obtain⟨vz6,q6,rfl⟩:=hI.v mm6 rfl;obtain⟨vz7,q7,rfl⟩:=hI.v mm7 rfl;obtain⟨vz8,q8,rfl⟩:=hI.v mm8 rfl;obtain⟨vz9,q9,rfl⟩:=hI.v mm9 rfl;obtain⟨vz10,q10,hz10⟩:=hI.v zJE rfl;obtain⟨vz11,q11,hz11⟩:=hI.v zJF rfl;obtain⟨vz12,q12,hz12⟩:=hI.v zJO rfl;replace hz12:jT w8 vz12 (y/p):=hz12;obtain⟨vz13,q13,hz13⟩:=hI.v zNL rfl;obtain⟨vz14,q14,rfl⟩:=hI.v zNM rfl;obtain⟨vz15,q15,rfl⟩:=hI.v zMc rfl;have hT:=zED [(57,.slice (some ⟨qb,0,none⟩) R R),(58,.int .i64 i),(59,.slice (some ⟨rb,0,none⟩) j j),(60,.int .i64 c),(61,.pointer (some ⟨rb,c*2,none⟩)),(62,.agg #[.bool s2,.slice a2 l2 k2]),(63,.slice (some ⟨bi,0,none⟩) j rc),(64,.int .i64 c),(65,.pointer (some ⟨bi,c*2,none⟩)),(66,.agg #[.bool s,.slice a l k]),(67,vz10),(56,vz11),(68,vz12),(69,vz13),(70,.int .i64 0),(71,.pointer (some ⟨qb,i*2,none⟩))]
   (fun j hj=>hI.keep j (by simp only[xgm]at hj ⊢;simp[hj]))
   (by simp only[xgm];simp[q0,q1,q2,q3,q4,q5,q6,q7,q8,q9,q10,q11,q12,q13,q14,q15]) hI.size
  have how8:=hI.onl;clear hI;simp only[List.foldl_cons,List.foldl_nil,xgh,xgi,xgj,ptr]at hT;subst hT;clear q0 q1 q2 q3 q4 q5 q6 q7 q8 q9 q10 q11 q12 q13 q14 q15;have hbw8:=zTy how8;obtain⟨qn,qa,ql,qc,qx,rfl,hqx⟩:=id hz12;have HQX:=xgw hqx;have hw9:=hstw8.trans (zHU rfl rfl);have hq8:=hqs.below hbw8;have hset:=hq8.set (k:=i) (by rw[qC];exact hlt) hz12;rw[<-hw9,show y/p=zFV j (ent M) x i from by rw[HQ.out,HQE.out],zMX]at hset;have hx9:=hset.2;have hr9:jQ w8f rb (yL j (zEm j (ent M) x i)):=(hrs.below hbw8).old (by rw[hw9];exact yS _ _ _ _ _ _ _ (zP hqr)) hx9;have hrow9:jQ w8f bi (yL j (ent M i)):=(hrow7.below hbw8).old (by rw[hw9];exact yS _ _ _ _ _ _ _ oM) hx9;have hb9:Below w.heap.size w w8f:=by rw[hw9];exact yJ (yJ (nx hbt hbw8) oM _ _) oM _ _
  have hq9:=hset.1;obtain⟨s9,a9,l9,c9,f1,f2,-,-,hv9⟩:=hq9.cell (yE hlt);rw[show yO (zFV j (ent M) x) (fun _=>0) (i+1) i=q from by unfold yO;rw[if_pos oM,HQ.out]]at hv9;have sq:zAN (Sm q):=⟨hB.bsm.sm _ hqB.out.1⟩;have sq2:zAN (Sm (-q)):=⟨hB.bsm.sm _ (by rw[zT];exact hqB.out.1)⟩;have hlb:rb≠bi:=by omega
  clear hset hw9 hqx hstw8 hz12 q1 q2 o1 o2 hz10 hz11 hz13 hl3 hl4 how8;go_wp2_with fail
  refine(zBS _ q w8f hv9.weak sq.out).mono ?_;rintro e w10 ⟨u,rfl,hu,hb10⟩;obtain⟨un,ua,ul,uc,ux,rfl,hu'⟩:=id hu;have HU:=xgw hu';have hr9:=hr9.below hb10;have hrow9:=hrow9.below hb10;have hq9:=hq9.below hb10;have hb9:=nx hb9 hb10;clear f1 f2 hu';go_wp2_with fail
  refine(zJl rb bi j j rc (zEm j (ent M) x i) (ent M i) _ (-q) w10 hr9 hrow9 hlb hu hC (xgf _) oM oM oM (fun t ht=>⟨hB.bsm.sm _ (HOK.out.rest i oM t ht),hB.bsm.sm _ (HOK.out.mat i hlt t ht),hB.bsm.sm _ (hqB.out.2 t ht)⟩) sq2.out).mono ?_;rintro e w11 ⟨⟨u11,rfl⟩,ho,hr11⟩;have hb11:Below w.heap.size w w11:=Below.only hb9 ho (xgf _) (fun b hb=>by simp at hb;omega);have hq11:=hq9.only ho (by simpa using hqr);have hrr:yL j (fun t=>zEm j (ent M) x i t+-q*ent M i t)=yL j (zEm j (ent M) x (i+1)):=qX fun t _=>by
   show _=zEm j (ent M) x i t+-(zFV j (ent M) x i)*ent M i t;rw[HQ.out]
  rw[hrr]at hr11;go_wp2;go_roundw
  case rel=>exact⟨i+1,by omega,by simp,hb11,hq11,hr11⟩
  case measure=>simp[intOf];omega
 obtain rfl:i=R:=by omega
 rw[zKN]at hqs;go_wp2;refine bodyPost_ret (zNk rfl _ _ _) rfl ?_;exact⟨_,_,rfl,hqs.vec (qC _ _) (xgf _) oM,hrs.vec (qC _ _) (xgf _) oM,hbt⟩
end Go.Proofs.YtkidaebmhlijlaaGreat
