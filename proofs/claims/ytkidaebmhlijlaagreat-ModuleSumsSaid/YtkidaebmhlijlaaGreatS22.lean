/- Joined. -/
import Derived.Test.YtkidaebmhlijlaaGreatS18
import Derived.Test.YtkidaebmhlijlaaGreatS19
set_option linter.unusedVariables false
set_option linter.unusedSimpArgs false
set_option linter.unusedSectionVars false
set_option maxHeartbeats 16000000
set_option maxRecDepth 100000
variable{g z:Int}{C N R T k n r r':Nat}{f:Nat->Int}{A B F G:Nat->Nat->Int}
namespace Go.Proofs.YtkidaebmhlijlaaGreat
open Go.RowKit
def zS0(R C k:Nat)(A:Nat->Nat->Int)(g:Int):Prop:=∀σ τ:Nat->Nat,(∀a,a<k->σ a<R)->(∀a,a<k->τ a<C)->g∣det k fun a b=>A (σ a) (τ b)
def Fac(R C:Nat)(F G:Nat->Nat->Int):Prop:=∃P Q:Nat->Nat->Int,∀a,a<R->∀b,b<C->G a b=qH R fun s=>P a s*qH C fun t=>F s t*Q t b
theorem zS0.fac(h:zS0 R C k F g)(hf:Fac R C F G):zS0 R C k G g:=by
 obtain⟨P,Q,e⟩:=hf;intro σ τ hσ hτ;rw[zAm (G:=fun a b=>qH R fun s=>P (σ a) s*qH C fun t=>F s t*Q t (τ b)) fun a ha b hb=>e _ (hσ a ha) _ (hτ b hb)];exact zFX (P:=fun a s=>P (σ a) s) (Q:=fun t b=>Q t (τ b)) h
theorem Rel.facTo{z:W5}(h:Rel R C A z):Fac R C A z.s:=⟨z.u,fun t b=>z.w b t,h.s⟩
theorem Rel.facFrom{z:W5}(h:Rel R C A z):Fac R C z.s A:=⟨fun a s=>z.v s a,fun t b=>z.x t b,h.back⟩
theorem zTm{P:Nat->Prop}:∀f,P f->∃f,P f/\∀g,P g->f<=g:=by
 intro f;induction f using Nat.strongRecOn with
 | ind f ih=>
  intro hf;by_cases h:∃g,g<f/\P g
  ·obtain⟨g,h1,h2⟩:=h
   exact ih g h1 h2
  exact⟨f,hf,fun g hg=>zAE fun hlt=>h ⟨g,hlt,hg⟩⟩
theorem Dg.minors(h:Dg R C r F)(hc:Chn 0 (min R C) F)(hk:k<=min R C):zS0 R C k F (yW k fun i=>F i i):=by
 refine fun σ τ hσ hτ=>zFb (R:=R) (C:=C) (fun σ τ hσ hτ hi hj=>?_) σ τ hσ hτ
 by_cases he:∀a,a<k->σ a=τ a
 ·rw[zEJ fun a ha b hb hab=>?_]
  ·refine zG1 fun i hik=>?_
   rw[<-he i hik];have h1:=hi.le i hik;have h2:=hσ i hik;have h3:=hτ i hik;rw[<-he i hik]at h3;rcases zG i (σ i)with h4|h4
   exact hc i (σ i) (zE _) h4 oM;rw[show σ i=i by omega];exact zAL _
  refine h.off _ (hσ a ha) _ (hτ b hb) ?_;rw[<-he b hb];have:=hi.lt a b hab hb;omega
 -- the first place where they differ
 have hex:∃a,(a<k/\σ a≠τ a)/\∀b,b<a->b<k->σ b=τ b:=by
  obtain⟨a,ha⟩:=Classical.not_forall.1 he;obtain⟨ha1,ha2⟩:=Classical.not_imp.1 ha;obtain⟨m,hm1,hm2⟩:=zTm (P:=fun a=>a<k/\σ a≠τ a) a ⟨ha1,ha2⟩;exact⟨m,hm1,fun b hb hbk=>zM fun hne=>by
   have:=hm2 b ⟨hbk,hne⟩;omega⟩
 obtain⟨a,⟨ha,hne⟩,hbef⟩:=hex;rcases zG (σ a) (τ a)with h1|h1
 ·rw[zCJ ha fun b hb=>?_]
  ·exact zCC _
  refine h.off _ (hσ a ha) _ (hτ b hb) fun e=>?_
  rcases yG b a with h2|h2|h2
  ·have:=hi.lt b a h2 ha
   rw[hbef b h2 hb]at this;omega
  subst h2;omega;have:=hj.lt a b h2 hb;omega
 rw[zHk (c:=a) ha fun b hb=>?_];exact zCC _;refine h.off _ (hσ b hb) _ (hτ a ha) fun e=>?_
 rcases yG b a with h2|h2|h2
 ·have:=hj.lt b a h2 ha
  rw[<-hbef b h2 hb]at this;omega
 subst h2;omega;have:=hi.lt a b h2 hb;omega
theorem Dg.gen(h:Dg R C r F)(hk:k<=min R C)(hm:zS0 R C k F g):g∣yW k fun i=>F i i:=by
 have:=hm (fun a=>a) (fun a=>a) (fun a ha=>by omega) (fun a ha=>by omega);rwa[zEJ fun a ha b hb hab=>h.off a oM b oM oM]at this
structure Inv(R C r:Nat)(A F:Nat->Nat->Int):Prop where
 dg:Dg R C r F
 chn:Chn 0 (min R C) F
 fwd:Fac R C A F
 bwd:Fac R C F A
theorem Inv.minors(h:Inv R C r A F)(hk:k<=min R C):zS0 R C k A (yW k fun i=>F i i):=(h.dg.minors h.chn hk).fac h.bwd
theorem Inv.gen(h:Inv R C r A F)(hk:k<=min R C)(hm:zS0 R C k A g):g∣yW k fun i=>F i i:=h.dg.gen hk (hm.fac h.fwd)
theorem Dg.nonneg{i:Nat}(h:Dg R C r F)(hi:i<min R C):0<=F i i:=by
 rcases zG i r with h1|h1
 have:=h.pos i h1;omega;rw[h.zero i h1 hi];exact zDo _
theorem zL5(h:∀i,i<n->0<=f i):0<=yW n f:=by
 induction n with
 |zero=>exact zBT Int.one_pos
 |succ n ih=>exact Int.mul_nonneg (ih fun i hi=>h i oM) (h n oM)
theorem Dg.prod_nonneg(h:Dg R C r F)(hk:k<=min R C):0<=yW k fun i=>F i i:=zL5 fun i hi=>h.nonneg oM
theorem zXs(hF:Dg R C r F)(hG:Dg R C r' G)(h:∀k,k<=min R C->yW k (fun i=>F i i)=yW k (fun i=>G i i)):r=r'/\∀i,i<min R C->F i i=G i i:=by
 have hrr:∀{r r':Nat} {F G:Nat->Nat->Int},Dg R C r F->Dg R C r' G->(∀k,k<=min R C->yW k (fun i=>F i i)=yW k (fun i=>G i i))->r<=r':=fun {r r' F G} hF hG h=>by
  refine zAE fun hlt=>?_
  have h1:=h (r'+1) (by have:=hF.le;omega);have h2:0<yW (r'+1) (fun i=>F i i):=jX fun i hi=>hF.pos i oM
  rw[h1,zJ5 (f:=fun i=>G i i) (c:=r') oM (hG.zero r' (xgf _) (by have:=hF.le;omega))]at h2;omega
 have e:r=r':=zCc (hrr hF hG h) (hrr hG hF fun k hk=>(h k hk).symm);subst e;refine⟨rfl,fun i hi=>?_⟩;rcases zG i r with h1|h1
 exact zGq (r:=r) (fun i hi=>hG.pos i hi) (fun j hj=>h j (by have:=hF.le;omega)) i h1;rw[hF.zero i h1 hi,hG.zero i h1 hi]
theorem Inv.unique(hF:Inv R C r A F)(hG:Inv R C r' B G)(h:∀k,k<=min R C->∀g,zS0 R C k A g↔zS0 R C k B g):r=r'/\∀i,i<min R C->F i i=G i i:=
 zXs hF.dg hG.dg fun k hk=>zC4 (hF.dg.prod_nonneg hk) (hG.dg.prod_nonneg hk) (hG.gen hk ((h k hk _).1 (hF.minors hk))) (hF.gen hk ((h k hk _).2 (hG.minors hk)))
theorem Inv.unique_fac(hF:Inv R C r A F)(hG:Inv R C r' B G)(h1:Fac R C A B)(h2:Fac R C B A):r=r'/\∀i,i<min R C->F i i=G i i:=
 hF.unique hG fun k _ g=>⟨fun h=>h.fac h1,fun h=>h.fac h2⟩
theorem Inv.of_relS(h:zOs R C r A F)(hc:Chn 0 (min R C) F):Inv R C r A F:=by
 obtain⟨hd,u,v,w,x,hr⟩:=h;exact⟨hd,hc,hr.facTo,hr.facFrom⟩
theorem zWf:∃n:Nat,n=8796093022208:=⟨_,rfl⟩
noncomputable def EB:Nat:=zWf.choose
theorem zWe:EB=8796093022208:=zWf.choose_spec
noncomputable def BB:Nat:=2^EB
theorem zWn:∃n:Nat,n=2^120:=⟨_,rfl⟩
noncomputable def SW:Nat:=zWn.choose
theorem zMk:SW=2^120:=zWn.choose_spec
theorem zGB:1<=SW:=by rw[zMk];decide+kernel
theorem zV4{K E e t:Nat}(hT:2*T=2^t)(he:e=120+(t*K+t*K)*(N+2)+(t+t)*(N+1))(hE:e<E):SW*(((2*T)^K*(2*T)^K)^(N+2))*(4*T*T)^(N+1)<2^E:=by
 have hQ:4*T*T=2^(t+t):=by rw[yQ,<-hT,Nat.mul_mul_mul_comm,zC]
 rw[hQ,hT,zMk,<-jS,<-jS,<-yQ,<-jS,<-yQ,<-yQ,<-he];exact Nat.pow_lt_pow_right oM hE
theorem zWB{tt:Nat}(hT:T=2^tt)(htt:tt=497)(hN:N=1939):SW*((GE T*GE T)^(N+2))*(4*T*T)^(N+1)<BB:=by
 refine zV4 (T:=T) (N:=N) (K:=KE) (E:=EB) (t:=tt+1) (e:=120+((tt+1)*KE+(tt+1)*KE)*(N+2)+((tt+1)+(tt+1))*(N+1)) ?_ rfl ?_;rw[hT,zN];exact(qF 2 tt).symm;rw[hN,zWe,htt];unfold KE;omega
theorem zSZ{Cu Cw:Nat}{z:W5}(hR:R<=4)(hC:C<=4)(hs:leM SW R C z.s)(hu:leM 1 R Cu z.u)(hv:leM 1 R Cu z.v)(hw:leM 1 C Cw z.w)(hx:leM 1 C Cw z.x):
  ∃f rr L r,zHZ BB R C Cu Cw f rr z=some (rnds L z)/\okL R C L/\okW BB R C Cu Cw z/\Dg R C r (rnds L z).s/\∀y,zMf (min R C) (rnds L z) y->okW BB R C Cu Cw y/\∀i j,i<j->j<min R C->¬ y.s i i∣y.s j j->zQR BB C Cu Cw y i j:=by
 have hM:leW SW R C Cu Cw z:=⟨hs,hu.mono zGB,hv.mono zGB,hw.mono zGB,hx.mono zGB⟩;obtain⟨tt,htt⟩:∃tt:Nat,tt=497:=⟨_,rfl⟩;obtain⟨T,hT0⟩:∃T:Nat,T=2^tt:=⟨_,rfl⟩;obtain⟨N,hN0⟩:∃N:Nat,N=1939:=⟨_,rfl⟩;have hT:24*(8*SW)^4<=T:=by rw[hT0,htt,zMk];decide+kernel
 have hN:(24*SW^4)^4<2^N:=by rw[hN0,zMk];decide+kernel
 have hD:24*SW^4<=T:=by rw[hT0,htt,zMk];decide+kernel
 have hT1:1<=T:=by rw[hT0,htt];decide+kernel
 have hnum:=zWB hT0 htt hN0;clear hT0 hN0 htt;have hQ:1<=(4*T*T)^(N+1):=qP (yA oM hT1);have hB1:SW*((GE T*GE T)^(N+2))<BB:=zJ (zQ _ hQ) hnum;have hpos:1<=(GE T*GE T)^(N+2):=qP (yA (zIM hT1) (zIM hT1));obtain⟨f,rr,L,r,h1,h2,h3,h4,h5,h6⟩:=zUD (h:=SW) hR hC zGB hs rfl hM zGB hT hN hB1;have hdg:=h4.dg h5;have hmu:mu r (rnds L z).s<2^N:=by
  have:=zXC (zB h4.le hR) h4 h6 (yA dE (qP zGB));have e:(((24*SW^4)^4:Nat):Int)<((2^N:Nat):Int):=Int.ofNat_lt.2 hN;have e2:((2^N:Nat):Int)=(2:Int)^N:=by rw[zCa];rfl
  exact Int.lt_of_le_of_lt this (e2 ▸ e)
 have hB2:1<BB:=zJ (zB zGB (zQ _ hpos)) hB1;refine⟨f,rr,L,r,h1,h2,⟨hs.ok (zJ (zQ _ hpos) hB1),hu.ok hB2,hv.ok hB2,hw.ok hB2,hx.ok hB2⟩,hdg,fun y hy=>?_⟩;exact zVV (zB h6 hD) hT1 (yA zGB hpos) hdg h3.u h3.v h3.w h3.x hmu hnum hy
theorem zWY:BB^3*16<=B32^zSy:=by
 have e:(B32:Nat)=2^32:=by decide
 have h1:BB^3*16=2^(EB*3+4):=by unfold BB;rw[<-jS,yQ]
 rw[h1,e,<-jS];exact zDC oM (by rw[zWe,zEH];omega)
theorem zWX:1<=BB:=qP oM
theorem zVF(h:z.natAbs<BB^3*16):Smd z:=⟨zH h zWY⟩
theorem zWW(hk:k<=3)(hn:n<=16):BB^k*n<=BB^3*16:=qT (zDC zWX hk) hn
theorem zWZ(h:z.natAbs<BB):Smd z:=zVF (zH h (by have:=zWW (k:=1) (n:=1) oM oM;simpa using this))
theorem zWV:BSd BB:=⟨fun z h=>zWZ h⟩
theorem Inv.small{h:Nat}(hI:Inv R C r A F)(hR:R<=4)(h1:1<=h)(hA:leM h R C A):(yW r (fun i=>F i i)).natAbs<=24*h^4:=by
 have hr:r<=min R C:=hI.dg.le;have hp:0<yW r (fun i=>F i i):=jX fun i hi=>hI.dg.pos i hi
 have hm:=hI.minors hr;have hne:∃σ τ:Nat->Nat,(∀a,a<r->σ a<R)/\(∀a,a<r->τ a<C)/\det r (fun a b=>A (σ a) (τ b))≠0:=by
  refine zM fun hn=>?_
  have:zS0 R C r A 0:=fun σ τ hσ hτ=>by
   have:det r (fun a b=>A (σ a) (τ b))=0:=zM fun h0=>hn ⟨σ,τ,hσ,hτ,h0⟩
   rw[this];exact zAL 0
  have:=Int.zero_dvd.1 (hI.gen hr this);omega
 obtain⟨σ,τ,hσ,hτ,h0⟩:=hne;refine zB (zC0 oM (Int.natAbs_dvd_natAbs.2 (hm σ τ hσ hτ))) ?_;exact zN5 (F:=fun a b=>A (σ a) (τ b)) oM h1 fun a ha b hb=>hA _ (hσ a ha) _ (hτ b hb)
theorem zO9(hp:∀i,i<n->f i≠0):nzL (yL n f)=yL n f:=by
 unfold nzL yL;rw[List.filter_eq_self];intro z hz;obtain⟨i,hi,rfl⟩:=List.mem_map.1 hz;exact decide_eq_true (hp i (yI.1 hi))
theorem zPA(hr:r<=n)(hp:∀i,i<r->f i≠0)(hz:∀i,r<=i->i<n->f i=0):nzL (yL n f)=yL r f:=by
 induction n with
 |zero=>
  obtain rfl:r=0:=by omega
  rfl
 | succ n ih=>
  have e:yL (n+1) f=yL n f++ [f n]:=by unfold yL;rw[zCb,zBY];rfl
  rw[e,zOL];by_cases h:r=n+1
  ·subst h
   rw[if_pos (hp n oM),zO9 (fun i hi=>hp i oM),e]
  rw[if_neg (by rw[hz n oM oM];simp),ih oM fun i h1 h2=>hz i h1 oM]
theorem Inv.empty(C:Nat)(A:Nat->Nat->Int):Inv 0 C 0 A A:=
 ⟨⟨fun a ha=>by omega,fun i hi=>by omega,fun i _ hi=>by omega,by omega⟩,fun a b _ h1 h2=>by omega,⟨idf,idf,fun a ha=>by omega⟩,⟨idf,idf,fun a ha=>by omega⟩⟩
theorem zOG(v:Value)(M:List (List Int))(R C:Nat)(w:World)(h:zAO w v R C M)(hF:zBc R C M)(hR:R<=4)(hC:C<=4)(hA:leM SW R C (ent M)):
  Calls Tryz.prog 72 #[v] w fun e w'=>∃v F r,e= .returned v/\Inv R C r (ent M) F/\zEW w' w.heap.size v (yL r fun i=>F i i)/\Below w.heap.size w w':=by
 rcases qN R with h0|h0
 ·subst h0
  refine(zIh v C M w h hF).mono ?_;rintro e w' ⟨v,rfl,h1,h2⟩;exact⟨v,ent M,0,rfl,Inv.empty C _,h1,h2⟩
 have z0:∀n,leM 1 n 0 zf:=fun n a _ b hb=>by omega
 obtain⟨f,rr,L,r,h1,h2,h3,h4,h5⟩:=zSZ (z:=⟨ent M,zf,zf,zf,zf⟩) (Cu:=0) (Cw:=0) hR hC hA (z0 R) (z0 R) (z0 C) (z0 C);have hr:=Rel.rnds h2 (Rel.start R C (ent M));have hs:(rnds L ⟨ent M,idf,idf,idf,idf⟩).s=(rnds L ⟨ent M,zf,zf,zf,zf⟩).s:=zU9 L rfl;have hRS:zOs R C r (ent M) (rnds L ⟨ent M,zf,zf,zf,zf⟩).s:=by
  rw[<-hs]at h4 ⊢
  exact⟨h4,(rnds L ⟨ent M,idf,idf,idf,idf⟩).u,(rnds L ⟨ent M,idf,idf,idf,idf⟩).v,(rnds L ⟨ent M,idf,idf,idf,idf⟩).w,(rnds L ⟨ent M,idf,idf,idf,idf⟩).x,hr⟩
 have hRS2:=zOs.divI (min R C) 0 _ oM hRS;have hI:=Inv.of_relS hRS2 (zO4 (n:=min R C) (min R C) 0 _ oM);refine(zJL zWV v M R C w h hF h0 oM oM h3 h1 (fun y' hy i j h6 h7 h8=>(h5 y' hy).2 i j h6 h7 h8) (fun y' hy i hi=>(h5 y' hy).1.1 i oM i oM)).mono ?_;rintro e w' ⟨v,rfl,k1,k2⟩;rw[zPA hI.dg.le (fun i hi=>by have:=hI.dg.pos i hi;omega) (fun i a b=>hI.dg.zero i a b)]at k1;exact⟨v,_,r,rfl,hI,k1,k2⟩
theorem zKG(f:Nat->Int)(n:Nat):zSe f n=qH n f:=by
 induction n with
 |zero=>rfl
 |succ n ih=>unfold zSe qH;rw[ih]
structure Chk(R C:Nat)(A S U V W X:List (List Int)):Prop where
 fs:zBc R C S
 fu:zBc R R U
 fv:zBc R R V
 fw:zBc C C W
 fx:zBc C C X
 is:zYe R C S=true
 i1:genM R R (zJ1 U V R)=genM R R idf
 i2:genM C C (zJ1 W X C)=genM C C idf
 ss:∀r∈S,∀z∈r,Smd z
 m1:zHz U V R R R
 m2:zHz W X C C C
 m3:zHz U A R R C
 m4:zHz (genM R C (zJ1 U A R)) W R C C
 p:genM R C (zJ1 (genM R C (zJ1 U A R)) W C)=S
theorem zMx(h:leM n R C F):leM n R C (ent (genM R C F)):=fun a ha b hb=>by rw[jM ha hb];exact h a ha b hb
def StV(w:World)(v:Value)(ls:List (Nat × Nat × Nat × Int)):Prop:=
 ∃ao n cap,v= .slice ao n cap/\ls.length=n/\n<=cap/\cap<=9223372036854775807/\(∀s∈ls,s.1<=255/\s.2.1<=255/\s.2.2.1<=255/\-128<=s.2.2.2/\s.2.2.2<=127)∧
  (ls≠ []->∃b off,ao=some ⟨b,off,none⟩/\b<w.heap.size/\∀(k:Nat) (s:Nat × Nat × Nat × Int),ls[k]?=some s->w.cell? ⟨b,off+k*4,none⟩=some (.int .u8 s.1)/\w.cell? ⟨b,off+k*4+1,none⟩=some (.int .u8 s.2.1)/\w.cell? ⟨b,off+k*4+2,none⟩=some (.int .u8 s.2.2.1)/\w.cell? ⟨b,off+k*4+3,none⟩=some (.int .i8 s.2.2.2))
theorem Fac.refl(R C:Nat)(F:Nat->Nat->Int):Fac R C F F:=⟨idf,idf,fun a ha b hb=>by
 rw[<-zKe ha fun s=>qH C fun t=>F s t*idf t b,zI2 hb]⟩
theorem Fac.congr{G':Nat->Nat->Int}(h:Fac R C F G)(e:∀a,a<R->∀b,b<C->G' a b=G a b):Fac R C F G':=by
 obtain⟨P,Q,h⟩:=h;exact⟨P,Q,fun a ha b hb=>(e a ha b hb).trans (h a ha b hb)⟩
theorem Fac.trans{H:Nat->Nat->Int}(h:Fac R C F G)(k:Fac R C G H):Fac R C F H:=by
 obtain⟨P,Q,h⟩:=h;obtain⟨P',Q',k⟩:=k;refine⟨fun a s=>qH R fun m=>P' a m*P m s,fun t b=>qH C fun m=>Q t m*Q' m b,fun a ha b hb=>?_⟩;rw[k a ha b hb];have e1:∀m,m<R->qH C (fun t=>G m t*Q' t b)=qH R fun s=>P m s*qH C fun t=>F s t*qH C fun m'=>Q t m'*Q' m' b:=fun m hm=>by
  have e2:∀t,t<C->G m t*Q' t b=qH R fun s=>P m s*qH C fun t'=>F s t'*(Q t' t*Q' t b):=fun t ht=>by
   rw[h m hm t ht,<-zCw];refine zL fun s _=>?_
   rw[qI,<-zCw];congr 1;exact zL fun t' _=>qI _ _ _
  rw[zL e2,zBe];refine zL fun s _=>?_
  rw[jH,zBe];congr 1;exact zL fun t' _=>jH _ _ _
 have e3:∀m,m<R->P' a m*qH C (fun t=>G m t*Q' t b)=qH R fun s=>(P' a m*P m s)*qH C fun t=>F s t*qH C fun m'=>Q t m'*Q' m' b:=fun m hm=>by
  rw[e1 m hm,<-jH];exact zL fun s _=>(qI _ _ _).symm
 rw[zL e3,zBe];exact zL fun s _=>zCw _ _ _
structure ChI(R C M i:Nat)(F0 F:Nat->Nat->Int):Prop where
 to_:Fac R C F0 F
 back:Fac R C F F0
 le:leM (M*3^i) R C F
def zYx(F:Nat->Nat->Int)(x y:Nat):Nat->Nat->Int:=fun a b=>if b=x then-(F a y)else if b=y then F a x else F a b
def zZC(F:Nat->Nat->Int)(x y r:Nat):Nat->Nat->Int:=fun a b=>if a<r then zYx F x y a b else F a b
theorem Inv.congr(h:Inv R C r A F)(e:∀a,a<R->∀b,b<C->B a b=A a b):Inv R C r B F:=
 ⟨h.dg,h.chn,(Fac.congr (Fac.refl R C B) fun a ha b hb=>(e a ha b hb).symm).trans h.fwd,h.bwd.congr e⟩
theorem Inv.list_eq(hF:Inv R C r A F)(hG:Inv R C r' B G)(h1:Fac R C A B)(h2:Fac R C B A):yL r' (fun i=>G i i)=yL r (fun i=>F i i):=by
 obtain⟨e1,e2⟩:=hF.unique_fac hG h1 h2;subst e1;exact qX fun i hi=>(e2 i (by have:=hF.dg.le;omega)).symm
def cor(R C:Nat)(x y:Int):Nat->Nat->Int:=fun a b=>if a=R-1/\b=0 then x else if a=0/\b=C-1 then y else 0
section
variable {P:Program} {ops:Array Oper} {W:World} {n0:Nat} {T0:Array Value} {tB:TypeId} {vs:List VS} {bs:List BS} {es:List ES} {L:Array Bool} {T:Array Value} {w:World} {k1 k2:Nat} {p1:World->World} {p2:Array Value->World->World}
theorem RIS.either(h:RIS W n0 T0 tB vs bs es k1 k2 p1 p2 L T w)(hcl:zCV ops L)(hr2:zHV ops 9 k2 k=true)(hL:L[k]?=some false):∃w0,(w=w0∨w=p1 w0)/\RI W n0 T0 tB vs bs es L T w0:=by
 obtain⟨w0,hri,h1,h2,h3⟩:=h.ex;have hn2:L[k2]?≠some true:=fun hh=>by
  have:=zDK hcl hr2 hh;rw[hL]at this;cases this
 by_cases hk:L[k1]?=some true
 ·exact⟨w0,.inr (h2 hk hn2),hri⟩
 exact⟨w0,.inl (h1 hk),hri⟩
end
theorem zBm.two(w:World){s1 s2:Bool}{a1 a2:Option Addr}{l1 l2 c1 c2:Nat}{z1 z2:Int}(h1:jT w (.agg #[.bool s1,.slice a1 l1 c1]) z1)(h2:jT w (.agg #[.bool s2,.slice a2 l2 c2]) z2):
  zBm (w.alloc (.cells #[.bool s1,.slice a1 l1 c1,.bool s2,.slice a2 l2 c2] 43)) (.slice (some ⟨w.heap.size,0,none⟩) 2 2) [z1,z2]:=by
 have hb:Below w.heap.size w (w.alloc (.cells #[.bool s1,.slice a1 l1 c1,.bool s2,.slice a2 l2 c2] 43)):=(zA _ _).alloc (xgf _) _;refine⟨_,2,2,rfl,rfl,xgf _,by omega,fun _=>⟨_,rfl,?_⟩⟩;refine⟨_,qQ _ _ _,fun k z hk=>?_⟩;match k,hk with
 |0,hk=>
  simp at hk;subst hk;exact⟨_,_,_,_,rfl,rfl,h1.ext (lx hb)⟩
 |1,hk=>
  simp at hk;subst hk;exact⟨_,_,_,_,rfl,rfl,h2.ext (lx hb)⟩
end Go.Proofs.YtkidaebmhlijlaaGreat
