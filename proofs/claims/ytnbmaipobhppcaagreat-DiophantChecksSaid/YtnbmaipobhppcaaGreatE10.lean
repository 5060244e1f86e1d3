/- hermite: reduce (the mirror) ends within bounds; what an elimination of at most four rows and columns keeps. Plain Lean. Blocks of 9 cells (printed by genB9.py). hermite.Form. The Hermite normal form is unique. Plain Lean. Hermite normal forms: how large, square ones, and what determinants tell. Plain Lean. smith's run (the mirror) ends within bounds; what its matrices are to each other. Plain Lean. hermite.Form of small matrices: a Hermite normal form, with its transforms. hermite.Basis. hermite.Basis of small matrices; what a Hermite normal form is, row by row. hermite.Is: the closure and the search. hermite.Is. The law for regions that draw (RegV), where two values stand in a relation, and some values are copies of others. -/
import Derived.Test.YtnbmaipobhppcaaGreatE04
import Derived.Test.YtnbmaipobhppcaaGreatE06
import Derived.Test.YtnbmaipobhppcaaGreatE08
import Derived.Test.YtnbmaipobhppcaaGreatE09
set_option linter.unusedVariables false
set_option linter.unusedSimpArgs false
set_option linter.unusedSectionVars false
set_option maxHeartbeats 16000000
set_option maxRecDepth 100000
namespace Go.Proofs.YtnbmaipobhppcaaGreat
open Go.RowKit
def gk:Nat->Nat->Nat
 |0,M=>M
 |k+1,M=>gk k (2*M*M)
theorem zFT{M:Nat}(h:1<=M):M<=2*M*M:=Nat.le_trans (show M<=2*M by omega) (Nat.le_mul_of_pos_right _ oM)
theorem zHr:∀(k:Nat) {M:Nat},1<=M->M<=gk k M
 |0,M,_=>xgf _
 |k+1,M,h=>Nat.le_trans (zFT h) (zHr k (Nat.le_trans h (zFT h)))
theorem zC1:∀(a b M:Nat),gk (a+b) M=gk b (gk a M)
 |0,b,M=>by rw[Nat.zero_add];rfl
 |a+1,b,M=>by
  have:a+1+b=(a+b)+1:=by omega
  rw[this];show gk (a+b) _=gk b (gk a _);exact zC1 a b _
theorem zEd(k:Nat){M:Nat}(h:1<=M):1<=gk k M:=Nat.le_trans h (zHr k h)
theorem zA6{a b M:Nat}(h:1<=M)(hab:a<=b):gk a M<=gk b M:=by
 obtain⟨d,rfl⟩:=Nat.exists_eq_add_of_le hab;rw[zC1];exact zHr d (zEd a h)
theorem zNo:∀(k M:Nat),2*gk k M=(2*M)^(2^k)
 |0,M=>by simp[gk]
 |k+1,M=>by
  show 2*gk k (2*M*M)=_;rw[zNo k,Nat.pow_succ 2 k,Nat.mul_comm (2^k),Nat.pow_mul (2*M) 2];congr 1;rw[Nat.pow_two,<-Nat.mul_assoc 2 (2*M) M,Nat.mul_comm 2 (2*M),Nat.mul_assoc (2*M) 2 M]
theorem leB.mono{M M' n Cs Ct:Nat}{x:Bst}(h:leB M n Cs Ct x)(hm:M<=M'):leB M' n Cs Ct x:=⟨h.1.mono hm,h.2.1.mono hm,h.2.2.mono hm⟩
theorem leB.ok{M B n Cs Ct:Nat}{x:Bst}(h:leB M n Cs Ct x)(hm:M<B):okB B n Cs Ct x:=⟨h.1.ok hm,h.2.1.ok hm,h.2.2.ok hm⟩
theorem zGE{M q:Nat}(hM:1<=M)(hq:q<=M):M*(1+q)<=2*M*M:=by
 have h1:M*q<=M*M:=Nat.mul_le_mul_left _ hq;have h2:M*1<=M*M:=Nat.mul_le_mul_left _ hM;rw[Nat.mul_add,Nat.mul_assoc];omega
theorem zGq{a b:Int}{M:Nat}(hb:0<b)(ha:a.natAbs<=M):(a/b).natAbs<=M:=by
 rcases Int.le_total 0 a with h|h
 ·have g1:=Int.ediv_nonneg h (Int.le_of_lt hb)
  have g2:=Int.ediv_le_self b h;omega
 ·have g1:a/b<=0:=Int.ediv_nonpos_of_nonpos_of_neg h hb
  have g2:a<=a/b:=by
   rw[Int.le_ediv_iff_mul_le hb];have:a*b<=a*1:=Int.mul_le_mul_of_nonpos_left h oM;omega
  omega
def vw(ρ:Nat->Nat)(F:Nat->Nat->Int):Nat->Nat->Int:=fun a t=>F (ρ a) t
theorem zJr{B n Cs Ct r i:Nat}{ρ κ:Nat->Nat}(hρ:∀k,k<r->ρ k<n)(hinj:∀a b,a<b->b<r->ρ a≠ρ b)(hi:i<r):∀(m j:Nat) (x:Bst) (M:Nat),j+m=r->i<j->leB M n Cs Ct x->1<=M->Ech Cs r κ (vw ρ x.s)->
  (∀j',i<j'->j'<j->0<=x.s (ρ i) (κ j')/\x.s (ρ i) (κ j')<x.s (ρ j') (κ j'))->gk m M<B->
  ∃l,zEp B n Cs Ct ρ κ i m j x=some (zBM l x)/\yB n l/\leB (gk m M) n Cs Ct (zBM l x)/\Ech Cs r κ (vw ρ (zBM l x).s)/\(∀a,a≠ρ i->∀t,(zBM l x).s a t=x.s a t)∧
   (∀j',i<j'->j'<r->0<=(zBM l x).s (ρ i) (κ j')/\(zBM l x).s (ρ i) (κ j')<(zBM l x).s (ρ j') (κ j')):=by
 intro m;induction m with
 |zero=>
  intro j x M hj hij hM hM1 hE hR hB;exact⟨[],rfl,yB.nil,hM,hE,fun a _ t=>rfl,fun j' h1 h2=>hR j' h1 oM⟩
 | succ m ih=>
  intro j x M hj hij hM hM1 hE hR hB;have hjr:j<r:=by omega
  have hp:0<x.s (ρ j) (κ j):=hE.pos j hjr;have hg1:gk m M<=gk (m+1) M:=zA6 hM1 oM;have hnij:ρ i≠ρ j:=hinj i j hij hjr;have hskip:(0<=x.s (ρ i) (κ j)/\x.s (ρ i) (κ j)<x.s (ρ j) (κ j))->∃l,zEp B n Cs Ct ρ κ i m (j+1) x=some (zBM l x)/\yB n l/\leB (gk (m+1) M) n Cs Ct (zBM l x)/\Ech Cs r κ (vw ρ (zBM l x).s)/\(∀a,a≠ρ i->∀t,(zBM l x).s a t=x.s a t)∧
   (∀j',i<j'->j'<r->0<=(zBM l x).s (ρ i) (κ j')/\(zBM l x).s (ρ i) (κ j')<(zBM l x).s (ρ j') (κ j')):=fun hin=>by
   obtain⟨l,g1,g2,g3,g4⟩:=ih (j+1) x M oM oM hM hM1 hE (fun j' h1 h2=>by
    by_cases e:j'=j
    ·rw[e];exact hin
    ·exact hR j' h1 oM) oM
   exact⟨l,g1,g2,g3.mono hg1,g4⟩
  unfold zEp;by_cases h0:x.s (ρ i) (κ j)=0
  ·rw[if_pos h0]
   exact hskip oM
  ·rw [if_neg h0,if_neg oM]
   by_cases hq0:x.s (ρ i) (κ j)/x.s (ρ j) (κ j)=0
   ·rw[if_pos hq0]
    refine hskip ?_;have h1:=Int.mul_ediv_add_emod (x.s (ρ i) (κ j)) (x.s (ρ j) (κ j));have h2:=Int.emod_nonneg (x.s (ρ i) (κ j)) (b:=x.s (ρ j) (κ j)) oM;have h3:=Int.emod_lt_of_pos (x.s (ρ i) (κ j)) hp;rw[hq0,Int.mul_zero]at h1;omega
   ·rw [if_neg hq0]
    have hqM:(x.s (ρ i) (κ j)/x.s (ρ j) (κ j)).natAbs<=M:=zGq hp (hM.1 _ (hρ i oM) _ (hE.lt j hjr));obtain⟨q,hq⟩:∃q,x.s (ρ i) (κ j)/x.s (ρ j) (κ j)=q:=⟨_,rfl⟩;rw[hq]at hqM ⊢
    have hb2:=zGE hM1 hqM;have hok:zDe B n Cs Ct x (ρ i) (ρ j) (-q):=zIs hM (hρ i oM) (hρ j hjr) hnij hM1 (by
     rw[Int.natAbs_neg];have:2*M*M<=gk (m+1) M:=zHr m (Nat.le_trans hM1 (zFT hM1));omega)
    rw[if_pos hok];have hoa:(Op.add (ρ i) (ρ j) (-q)).ok n:=⟨hρ i oM,hρ j hjr,hnij⟩;have hM2:leB (2*M*M) n Cs Ct (zBM [.add (ρ i) (ρ j) (-q)] x):=(zOW hM hoa).mono (by simpa[Op.g]using hb2);have hst:∀a t,(zBM [.add (ρ i) (ρ j) (-q)] x).s a t=if a=ρ i then x.s (ρ i) t+-q*x.s (ρ j) t else x.s a t:=fun a t=>rfl
    have hdm:=Int.mul_ediv_add_emod (x.s (ρ i) (κ j)) (x.s (ρ j) (κ j));have hm0:=Int.emod_nonneg (x.s (ρ i) (κ j)) (b:=x.s (ρ j) (κ j)) oM;have hml:=Int.emod_lt_of_pos (x.s (ρ i) (κ j)) hp;rw[hq]at hdm;have hne:∀a,a<r->a≠i->ρ a≠ρ i:=fun a ha e h=>by
     rcases Nat.lt_or_gt_of_ne e with h1|h1
     ·exact hinj a i h1 hi h
     ·exact hinj i a h1 ha h.symm
    have hEy:Ech Cs r κ (vw ρ (zBM [.add (ρ i) (ρ j) (-q)] x).s):=by
     have hsm:∀t,t<=κ i->x.s (ρ i) t+-q*x.s (ρ j) t=x.s (ρ i) t:=fun t ht=>by
      have hz:x.s (ρ j) t=0:=hE.zero j hjr t (by have:=hE.inc i j hij hjr;omega);rw[hz];omega
     refine⟨hE.lt,fun a ha=>?_,fun a ha t ht=>?_,hE.inc⟩
     ·show 0<(zBM [.add (ρ i) (ρ j) (-q)] x).s (ρ a) (κ a)
      rw[hst];by_cases e:a=i
      ·rw[e,if_pos rfl,hsm _ (xgf _)];exact hE.pos i oM
      ·rw[if_neg (hne a ha e)];exact hE.pos a ha
     ·show(zBM [.add (ρ i) (ρ j) (-q)] x).s (ρ a) t=0
      rw[hst];by_cases e:a=i
      ·rw[e]at ht
       rw[e,if_pos rfl,hsm t oM];exact hE.zero i oM t ht
      ·rw[if_neg (hne a ha e)];exact hE.zero a ha t ht
    obtain⟨l,g1,g2,g3,g4,g5,g6⟩:=ih (j+1) (zBM [.add (ρ i) (ρ j) (-q)] x) (2*M*M) oM oM hM2 (Nat.le_trans hM1 (zFT hM1)) hEy
     (fun j' h1 h2=>by
      rw[hst,hst,if_pos rfl,if_neg (hne j' oM oM)];by_cases e:j'=j
      ·rw[e,Int.neg_mul,Int.mul_comm q]
       constructor<;>omega
      ·have hz:x.s (ρ j) (κ j')=0:=hE.zero j hjr (κ j') (hE.inc j' j oM hjr)
       rw[hz,Int.mul_zero,Int.add_zero];exact hR j' h1 oM) hB
    rw[<-zEC]at g1 g3 g4 g5 g6;refine⟨[Op.add (ρ i) (ρ j) (-q)]++l,g1,(yB.cons hoa yB.nil).app g2,g3,g4,fun a ha t=>?_,g6⟩;rw[g5 a ha t,hst,if_neg ha]
theorem zJq{B n Cs Ct r:Nat}{ρ κ:Nat->Nat}(hρ:∀k,k<r->ρ k<n)(hinj:∀a b,a<b->b<r->ρ a≠ρ b):∀(i:Nat) (x:Bst) (M:Nat),i<=r->leB M n Cs Ct x->1<=M->Ech Cs r κ (vw ρ x.s)->
  zHe (fun a _=>i<=a) r κ (vw ρ x.s)->gk (zNs r i) M<B->
  ∃l,zHE B n Cs Ct ρ κ r i x=some (zBM l x)/\yB n l/\leB (gk (zNs r i) M) n Cs Ct (zBM l x)/\Ech Cs r κ (vw ρ (zBM l x).s)/\zHe (fun _ _=>True) r κ (vw ρ (zBM l x).s)∧
   (∀a,(∀k,k<r->ρ k≠a)->∀t,(zBM l x).s a t=x.s a t):=by
 intro i;induction i with
 |zero=>
  intro x M hi hM hM1 hE hR hB;exact⟨[],rfl,yB.nil,hM,hE,fun a b h1 h2 _=>hR a b h1 h2 (Nat.zero_le _),fun a _ t=>rfl⟩
 | succ i ih=>
  intro x M hi hM hM1 hE hR hB;have hsum:gk (zNs r (i+1)) M=gk (zNs r i) (gk (r-(i+1)) M):=zC1 _ _ _;rw[hsum]at hB ⊢
  have hM2:=zEd (r-(i+1)) hM1;have hB1:gk (r-(i+1)) M<B:=Nat.lt_of_le_of_lt (zHr (zNs r i) hM2) hB;obtain⟨l1,g1,g2,g3,g4,g5,g6⟩:=zJr (B:=B) (Ct:=Ct) (i:=i) hρ hinj oM (r-(i+1)) (i+1) x M oM oM hM hM1 hE (fun j' h1 h2=>by omega) hB1;have hne:∀a,a<r->a≠i->ρ a≠ρ i:=fun a ha e h=>by
   rcases Nat.lt_or_gt_of_ne e with h1|h1
   ·exact hinj a i h1 oM h
   ·exact hinj i a h1 ha h.symm
  obtain⟨l2,k1,k2,k3,k4,k5,k6⟩:=ih (zBM l1 x) (gk (r-(i+1)) M) oM g3 hM2 g4
   (fun a b h1 h2 h3=>by
    show 0<=(zBM l1 x).s (ρ a) (κ b)/\(zBM l1 x).s (ρ a) (κ b)<(zBM l1 x).s (ρ b) (κ b);by_cases e:a=i
    ·rw[e];exact g6 b oM h2
    ·rw[g5 _ (hne a oM e),g5 _ (hne b h2 oM)]
     exact hR a b h1 h2 oM) hB
  rw[<-zEC]at k1 k3 k4 k5 k6;refine⟨l1++l2,?_,g2.app k2,k3,k4,k5,fun a ha t=>?_⟩
  ·unfold zHE
   rw[g1,Option.bind_some];exact k1
  ·rw[k6 a ha t,g5 a (fun e=>ha i oM e.symm)]
theorem zJH{a b x y:Int}{M:Nat}(ha:a.natAbs<=M)(hb:b.natAbs<=M)(hx:x.natAbs<=M)(hy:y.natAbs<=M):(a*x+b*y).natAbs<=2*M*M:=by
 have h1:(a*x).natAbs<=M*M:=by rw[Int.natAbs_mul];exact Nat.mul_le_mul ha hx
 have h2:(b*y).natAbs<=M*M:=by rw[Int.natAbs_mul];exact Nat.mul_le_mul hb hy
 rw[Nat.mul_assoc];omega
theorem zDW{M n C i j:Nat}{a b c d:Int}{F:Nat->Nat->Int}(h:leM M n C F)(hM:1<=M)(hi:i<n)(hj:j<n)(ha:a.natAbs<=M)(hb:b.natAbs<=M)(hc:c.natAbs<=M)(hd:d.natAbs<=M):leM (2*M*M) n C (qQ F i j a b c d):=by
 intro r hr t ht;unfold qQ;split
 ·exact zJH ha hb (h i hi t ht) (h j hj t ht)
 ·split
  ·exact zJH hc hd (h i hi t ht) (h j hj t ht)
  ·exact Nat.le_trans (h r hr t ht) (zFT hM)
theorem zKz{M n Cs Ct i j:Nat}{a b c d:Int}{x:Bst}(h:leB M n Cs Ct x)(hM:1<=M)(hi:i<n)(hj:j<n)(ha:a.natAbs<=M)(hb:b.natAbs<=M)(hc:c.natAbs<=M)(hd:d.natAbs<=M):leB (2*M*M) n Cs Ct (x.mix i j a b c d):=
 ⟨zDW h.1 hM hi hj ha hb hc hd,zDW h.2.1 hM hi hj ha hb hc hd,zDW h.2.2 hM hi hj hd (by rw[Int.natAbs_neg];exact hc) (by rw[Int.natAbs_neg];exact hb) ha⟩
theorem zM4{B M n Cs Ct i j:Nat}{a b c d:Int}{x:Bst}(h:leB M n Cs Ct x)(hM:1<=M)(hi:i<n)(hj:j<n)(ha:a.natAbs<=M)(hb:b.natAbs<=M)(hc:c.natAbs<=M)(hd:d.natAbs<=M)(hB:2*M*M<B):zLC B n Cs Ct x i j a b c d:=by
 have h1:=zFT hM;have hp:∀u v:Int,u.natAbs<=M->v.natAbs<=M->(u*v).natAbs<B:=fun u v hu hv=>by
  have e:(u*v).natAbs<=M*M:=by rw[Int.natAbs_mul];exact Nat.mul_le_mul hu hv
  rw[Nat.mul_assoc]at hB;omega
 exact⟨⟨by omega,by omega,by omega,by omega⟩,fun t ht=>⟨hp _ _ ha (h.1 i hi t ht),hp _ _ hb (h.1 j hj t ht),hp _ _ hc (h.1 i hi t ht),hp _ _ hd (h.1 j hj t ht)⟩,
  fun t ht=>⟨hp _ _ ha (h.2.1 i hi t ht),hp _ _ hb (h.2.1 j hj t ht),hp _ _ hc (h.2.1 i hi t ht),hp _ _ hd (h.2.1 j hj t ht)⟩,
  fun t ht=>⟨hp _ _ hd (h.2.2 i hi t ht),hp _ _ hc (h.2.2 j hj t ht),hp _ _ hb (h.2.2 i hi t ht),hp _ _ ha (h.2.2 j hj t ht)⟩,(zKz h hM hi hj ha hb hc hd).ok hB⟩
def jJ(L:List (Nat × Nat))(k:Nat):Nat:=(L.getD k (0,0)).1
def zDK(L:List (Nat × Nat))(k:Nat):Nat:=(L.getD k (0,0)).2
structure JC(n Cs Ct M0:Nat)(x0:Bst)(b g:Nat)(x:Bst)(L:List (Nat × Nat)):Prop where
 ops:∃l,yB n l/\x=zBM l x0
 row:∀k,k<L.length->jJ L k<b
 inj:∀i j,i<j->j<L.length->jJ L i≠jJ L j
 len:L.length<=b
 ech:Ech Cs L.length (zDK L) (vw (jJ L) x.s)
 zero:∀a,a<b->(∀k,k<L.length->jJ L k≠a)->∀t,t<Cs->x.s a t=0
 bd:leB (gk g M0) n Cs Ct x
def es:Nat->Nat
 |0=>0
 |m+1=>es m+m+m*(m+1)/2
theorem zOL{a b:Nat}(h:a<=b):es a<=es b:=by
 obtain⟨d,rfl⟩:=Nat.exists_eq_add_of_le h;clear h;induction d with
 |zero=>exact xgf _
 |succ d ih=>exact Nat.le_trans ih (by show _<=es (a+d)+(a+d)+_;omega)
def esr(r:Nat):Nat->Nat
 |0=>0
 |m+1=>esr r m+min m r+min m r*(min m r+1)/2
theorem zMQ(r:Nat){a b:Nat}(h:a<=b):esr r a<=esr r b:=by
 obtain⟨d,rfl⟩:=Nat.exists_eq_add_of_le h;clear h;induction d with
 |zero=>exact xgf _
 |succ d ih=>exact Nat.le_trans ih (by show _<=esr r (a+d)+min (a+d) r+_;omega)
theorem zIg(r:Nat):∀m,esr r m<=es m
 |0=>xgf _
 |m+1=>Nat.add_le_add (Nat.add_le_add (zIg r m) (Nat.min_le_left m r)) (Nat.div_le_div_right (Nat.mul_le_mul (Nat.min_le_left m r) (Nat.succ_le_succ (Nat.min_le_left m r))))
def RkB(r n Cs:Nat)(x0:Bst):Prop:=∀(l:List Op) (k:Nat) (ρ κ:Nat->Nat),yB n l->k<=n->(∀j,j<k->ρ j<n)->(∀i j,i<j->j<k->ρ i≠ρ j)->Ech Cs k κ (vw ρ (zBM l x0).s)->k<=r
theorem RkB.all{n Cs:Nat}{x0:Bst}:RkB n n Cs x0:=fun _ _ _ _ _ h _ _ _=>h
theorem JC.rk{r n Cs Ct M0 b g:Nat}{x0 x:Bst}{L:List (Nat × Nat)}(h:JC n Cs Ct M0 x0 b g x L)(hb:b<=n)(hr:RkB r n Cs x0):L.length<=r:=by
 obtain⟨l,h1,h2⟩:=h.ops;exact hr l _ (jJ L) (zDK L) h1 (Nat.le_trans h.len hb) (fun j hj=>Nat.lt_of_lt_of_le (h.row j hj) hb) h.inj (h2 ▸ h.ech)
def JH(r n Cs Ct M0:Nat)(x0:Bst)(m:Nat)(x:Bst)(L:List (Nat × Nat)):Prop:=
 m<=n/\(∃g,g<=L.length/\(m<n->∀i,i<g->lead Cs x.s m<0∨(zDK L i:Int)<lead Cs x.s m)/\(m=n->g=0)/\JC n Cs Ct M0 x0 m (esr r m+g) x L)/\(m=n->zHe (fun _ _=>True) L.length (zDK L) (vw (jJ L) x.s))
def JH'(r n Cs Ct M0:Nat)(x0:Bst)(m:Nat)(x:Bst)(L:List (Nat × Nat)):Prop:=JC n Cs Ct M0 x0 (m+1) (esr r m+min m r) x L
section
variable {B r n Cs Ct M0:Nat} {x0:Bst}
theorem JC.lok{b g:Nat}{x:Bst}{L:List (Nat × Nat)}(h:JC n Cs Ct M0 x0 b g x L)(hb:b<=n):LOk n Cs b x L:=by
 refine⟨fun k hk=>⟨h.row k hk,Nat.lt_of_lt_of_le (h.row k hk) hb,h.ech.lt k hk,?_⟩,h.ech.inc,h.inj,Nat.le_trans h.len hb⟩;have:0<x.s (jJ L k) (zDK L k):=h.ech.pos k hk;have e:x.s (L.getD k (0,0)).1 (L.getD k (0,0)).2=x.s (jJ L k) (zDK L k):=rfl;rw[e];omega
theorem zH7{x y:Bst}{l l':List Op}(h1:yB n l)(h2:x=zBM l x0)(h3:yB n l')(h4:y=zBM l' x):∃l,yB n l/\y=zBM l x0:=⟨l++l',h1.app h3,by rw[zEC,<-h2];exact h4⟩
theorem zGw{m k c e:Nat}{x y:Bst}{L:List (Nat × Nat)}(hm:m<n)(hM0:1<=M0)(hcC:c<Cs){g:Nat}(h:JC n Cs Ct M0 x0 m g x L)(he:e<=k)(hk:k<L.length)(hc:zDK L k=c)
  (hy:∃l,yB n l/\y=zBM l x) (ho:∀a,a≠m->a≠jJ L k->∀t,y.s a t=x.s a t) (hp:0<y.s (jJ L k) c) (hz:∀t,t<c->y.s (jJ L k) t=0) (hmz:∀t,t<=c->y.s m t=0) (hb:leB (gk (esr r m+e+1) M0) n Cs Ct y):
  JH r n Cs Ct M0 x0 m y L/\(lead Cs y.s m<0∨(c:Int)<lead Cs y.s m):=by
 have hl:lead Cs y.s m<0∨(c:Int)<lead Cs y.s m:=by
  rcases zAn Cs y.s m with⟨g,-⟩|⟨c1,g1,g2,g3,-⟩
  ·left;omega
  ·right
   rcases Nat.lt_or_ge c c1 with h|h
   ·omega
   ·exact absurd (hmz c1 h) g3
 have hne:∀a,a<L.length->a≠k->jJ L a≠jJ L k:=fun a ha e hh=>by
  rcases Nat.lt_or_gt_of_ne e with h1|h1
  ·exact h.inj a k h1 hk hh
  ·exact h.inj k a h1 ha hh.symm
 have hrm:∀a,a<L.length->jJ L a≠m:=fun a ha=>by have:=h.row a ha;omega
 obtain⟨l,hl1,hl2⟩:=h.ops;obtain⟨l',hl3,hl4⟩:=hy;refine⟨⟨by omega,⟨k+1,hk,fun _ i hi=>?_,fun e=>by omega,⟨zH7 hl1 hl2 hl3 hl4,h.row,h.inj,h.len,⟨h.ech.lt,fun a ha=>?_,fun a ha t ht=>?_,h.ech.inc⟩,fun a ha hna t ht=>?_,hb.mono (zA6 hM0 oM)⟩⟩,fun e=>by omega⟩,hl⟩
 ·have:zDK L i<=c:=by
   rcases Nat.lt_or_ge i k with h1|h1
   ·have:=h.ech.inc i k h1 hk;omega
   ·obtain rfl:i=k:=by omega
    omega
  omega
 ·show 0<y.s (jJ L a) (zDK L a)
  by_cases e:a=k
  ·rw[e,hc];exact hp
  ·rw[ho _ (hrm a ha) (hne a ha e)];exact h.ech.pos a ha
 ·show y.s (jJ L a) t=0
  by_cases e:a=k
  ·rw[e,hc]at ht
   rw[e];exact hz t ht
  ·rw[ho _ (hrm a ha) (hne a ha e)];exact h.ech.zero a ha t ht
 ·rw[ho a oM (fun e=>hna k hk e.symm)]
  exact h.zero a ha hna t ht
theorem zMo{m k c e:Nat}{x:Bst}{L:List (Nat × Nat)}(hm:m<n)(hM0:1<=M0)(h:JC n Cs Ct M0 x0 m (esr r m+e) x L)(he:e<=k)(hl:lead Cs x.s m=(c:Int))(hk:k<L.length)(hc:zDK L k=c)
  (hd:x.s m c%x.s (jJ L k) c=0):JH r n Cs Ct M0 x0 m (x.add m (jJ L k) (-(x.s m c/x.s (jJ L k) c))) L/\(lead Cs (x.add m (jJ L k) (-(x.s m c/x.s (jJ L k) c))).s m<0∨(c:Int)<lead Cs (x.add m (jJ L k) (-(x.s m c/x.s (jJ L k) c))).s m):=by
 obtain⟨hcC,-⟩:=zBJ hl;have hrm:=h.row k hk;have hz:∀t,t<c->x.s (jJ L k) t=0:=fun t ht=>h.ech.zero k hk t (by rw[hc];exact ht)
 have hp:0<x.s (jJ L k) c:=by have:=h.ech.pos k hk;rw[hc]at this;exact this
 have hmz:∀t,t<c->x.s m t=0:=by
  rcases zAn Cs x.s m with⟨g,-⟩|⟨c1,g1,g2,g3,g4⟩
  ·omega
  ·obtain rfl:c1=c:=by omega
   exact g4
 have hM:=zEd (esr r m+e) hM0;have hq:(x.s m c/x.s (jJ L k) c).natAbs<=gk (esr r m+e) M0:=zGq hp (h.bd.1 m hm c hcC);have hoa:(Op.add m (jJ L k) (-(x.s m c/x.s (jJ L k) c))).ok n:=⟨hm,by omega,by omega⟩;have hst:∀a t,(x.add m (jJ L k) (-(x.s m c/x.s (jJ L k) c))).s a t=if a=m then x.s m t+-(x.s m c/x.s (jJ L k) c)*x.s (jJ L k) t else x.s a t:=fun a t=>rfl
 refine zGw hm hM0 hcC h he hk hc ⟨[_],yB.cons hoa yB.nil,rfl⟩ (fun a h1 h2 t=>by rw[hst,if_neg h1]) (by rw[hst,if_neg oM];exact hp) (fun t ht=>by rw[hst,if_neg oM];exact hz t ht) (fun t ht=>?_) ?_
 ·rw[hst,if_pos rfl]
  by_cases ee:t=c
  ·subst ee
   have:=Int.mul_ediv_add_emod (x.s m t) (x.s (jJ L k) t);rw[Int.neg_mul,Int.mul_comm (x.s m t/_)];omega
  ·rw[hmz t oM,hz t oM,Int.mul_zero];rfl
 ·refine(zOW h.bd hoa).mono ?_
  rw[zC1 (esr r m+e) 1];show _<=2*gk (esr r m+e) M0*gk (esr r m+e) M0;have:(Op.add m (jJ L k) (-(x.s m c/x.s (jJ L k) c))).g=1+(x.s m c/x.s (jJ L k) c).natAbs:=by simp[Op.g]
  rw[this];exact zGE hM hq
theorem zN7{x y:Int}(hx:0<x){g:Int}(hg:g=((Int.gcd x y:Nat):Int)):0<g/\g*(x/g)=x/\g*(y/g)=y/\(x/g).natAbs<=x.natAbs/\(y/g).natAbs<=y.natAbs:=by
 have h0:Int.gcd x y≠0:=fun e=>by rw[Int.gcd_eq_zero_iff]at e;omega
 have hg0:0<g:=by omega
 have d1:g∣x:=by rw[hg];exact Int.gcd_dvd_left ..
 have d2:g∣y:=by rw[hg];exact Int.gcd_dvd_right ..
 exact⟨hg0,Int.mul_ediv_cancel' d1,Int.mul_ediv_cancel' d2,zGq hg0 (xgf _),zGq hg0 (xgf _)⟩
def zPx(x:Bst)(r m c:Nat)(s t:Int):Bst:=x.mix r m s t (-(x.s m c/((Int.gcd (x.s r c) (x.s m c):Nat):Int))) (x.s r c/((Int.gcd (x.s r c) (x.s m c):Nat):Int))
def zNr(B n Cs Ct G m c:Nat)(x:Bst)(r:Nat)(s t:Int):Prop:=G<B->zLC B n Cs Ct x r m s t (-(x.s m c/((Int.gcd (x.s r c) (x.s m c):Nat):Int))) (x.s r c/((Int.gcd (x.s r c) (x.s m c):Nat):Int))
theorem zIk{m k c e:Nat}{x:Bst}{L:List (Nat × Nat)}(hm:m<n)(hM0:1<=M0)(h:JC n Cs Ct M0 x0 m (esr r m+e) x L)(he:e<=k)(hl:lead Cs x.s m=(c:Int))(hk:k<L.length)(hc:zDK L k=c)(s t:Int)
  (hbz:Bez (x.s (jJ L k) c) (x.s m c) s t):zNr B n Cs Ct (gk (esr r m+e+1) M0) m c x (jJ L k) s t/\(JH r n Cs Ct M0 x0 m (zPx x (jJ L k) m c s t) L/\(lead Cs (zPx x (jJ L k) m c s t).s m<0∨(c:Int)<lead Cs (zPx x (jJ L k) m c s t).s m)):=by
 obtain⟨hcC,-⟩:=zBJ hl;have hrm:=h.row k hk;have hz:∀t,t<c->x.s (jJ L k) t=0:=fun t ht=>h.ech.zero k hk t (by rw[hc];exact ht)
 have hp:0<x.s (jJ L k) c:=by have:=h.ech.pos k hk;rw[hc]at this;exact this
 have hmz:∀t,t<c->x.s m t=0:=by
  rcases zAn Cs x.s m with⟨g,-⟩|⟨c1,g1,g2,g3,g4⟩
  ·omega
  ·obtain rfl:c1=c:=by omega
   exact g4
 have hM:=zEd (esr r m+e) hM0;have bx:=h.bd.1 (jJ L k) oM c hcC;have by_:=h.bd.1 m hm c hcC;obtain⟨hb1,hb2,hb3⟩:=hbz;obtain⟨g,hg⟩:∃g:Int,((Int.gcd (x.s (jJ L k) c) (x.s m c):Nat):Int)=g:=⟨_,rfl⟩;obtain⟨d1,d2,d3,d4,d5⟩:=zN7 hp hg.symm;have q1:s.natAbs<=gk (esr r m+e) M0:=by omega
 have q2:t.natAbs<=gk (esr r m+e) M0:=by omega
 have q3:(-(x.s m c/g)).natAbs<=gk (esr r m+e) M0:=by rw[Int.natAbs_neg];omega
 have q4:(x.s (jJ L k) c/g).natAbs<=gk (esr r m+e) M0:=by omega
 have hbd:=zKz h.bd hM (by omega:jJ L k<n) hm q1 q2 q3 q4;unfold zNr zPx;rw[hg]at hb1 ⊢
 refine⟨fun hB=>zM4 h.bd hM oM hm q1 q2 q3 q4 (by rw[zC1 (esr r m+e) 1]at hB;exact hB),?_⟩;have hne:jJ L k≠m:=by omega
 have hdet:s*(x.s (jJ L k) c/g)-t*(-(x.s m c/g))=1:=by
  have e':g*(s*(x.s (jJ L k) c/g)-t*(-(x.s m c/g)))=g*1:=by
   rw[Int.mul_neg,Int.sub_neg,Int.mul_add,Int.mul_left_comm g s,Int.mul_left_comm g t,d2,d3,hb1,Int.mul_one]
  exact Int.eq_of_mul_eq_mul_left oM e'
 obtain⟨l,l1,l2⟩:=zOd (n:=n) (by omega:jJ L k<n) hm hne _ s t (-(x.s m c/g)) (x.s (jJ L k) c/g) rfl hdet;have hst:∀a u,(x.mix (jJ L k) m s t (-(x.s m c/g)) (x.s (jJ L k) c/g)).s a u=if a=jJ L k then s*x.s (jJ L k) u+t*x.s m u else if a=m then-(x.s m c/g)*x.s (jJ L k) u+x.s (jJ L k) c/g*x.s m u else x.s a u:=fun a u=>rfl
 refine zGw hm hM0 hcC h he hk hc ⟨l,l1,l2 x⟩ (fun a h1 h2 u=>by rw[hst,if_neg h2,if_neg h1]) (by rw[hst,if_pos rfl,hb1];exact d1) (fun u hu=>by rw[hst,if_pos rfl,hz u hu,hmz u hu];simp) (fun u hu=>?_) (by rw[zC1 (esr r m+e) 1];exact hbd);rw[hst,if_neg (Ne.symm hne),if_pos rfl];by_cases ee:u=c
 ·subst ee
  have e1:x.s m u/g*x.s (jJ L k) u=x.s (jJ L k) u/g*x.s m u:=by
   have:g*(x.s m u/g*x.s (jJ L k) u)=g*(x.s (jJ L k) u/g*x.s m u):=by
    rw[<-Int.mul_assoc,d3,<-Int.mul_assoc,d2,Int.mul_comm]
   exact Int.eq_of_mul_eq_mul_left oM this
  rw[Int.neg_mul,e1];omega
 ·rw[hmz u oM,hz u oM];simp
theorem zI7(L:List (Nat × Nat)){k m c:Nat}(hk:k<=L.length)(a:Nat):(L.take k++(m,c)::L.drop k).getD a (0,0)=if a<k then L.getD a (0,0)else if a=k then(m,c)else L.getD (a-1) (0,0):=by
 rw[xgb];split
 ·rename_i h
  rw[List.getElem?_append_left (by simp;omega),List.getElem?_take_of_lt h,<-xgb]
 ·rename_i h
  rw[List.getElem?_append_right (by simp;omega)];have e:(L.take k).length=k:=by simp;omega
  rw[e];split
  ·rename_i h2
   rw[h2];simp
  ·rename_i h2
   obtain⟨d,hd⟩:∃d,a-k=d+1:=⟨a-k-1,by omega⟩;rw[hd,List.getElem?_cons_succ,List.getElem?_drop,<-xgb];congr 1;omega
theorem zPZ{m k c e:Nat}{x:Bst}{L:List (Nat × Nat)}(hm:m<n)(hM0:1<=M0)(h:JC n Cs Ct M0 x0 m (esr r m+e) x L)(he:e<=min m r)(hl:lead Cs x.s m=(c:Int))(hk:k<=L.length)(hlo:∀i,i<k->zDK L i<c)(hhi:∀i,k<=i->i<L.length->c<zDK L i):
  JH' r n Cs Ct M0 x0 m (if x.s m c<0 then x.neg m else x) (L.take k++(m,c)::L.drop k):=by
 obtain⟨hcC,hn0⟩:=zBJ hl;have hmz:∀t,t<c->x.s m t=0:=by
  rcases zAn Cs x.s m with⟨g,-⟩|⟨c1,g1,g2,g3,g4⟩
  ·omega
  ·obtain rfl:c1=c:=by omega
   exact g4
 obtain⟨ng,h1,h2,h3⟩:∃ng,yB n ng/\gro ng=1/\(if x.s m c<0 then x.neg m else x)=zBM ng x:=by
  by_cases hneg:x.s m c<0
  ·rw[if_pos hneg];exact⟨[.neg m],yB.cons hm yB.nil,rfl,rfl⟩
  ·rw[if_neg hneg];exact⟨[],yB.nil,rfl,rfl⟩
 have hb:leB (gk (esr r m+min m r) M0) n Cs Ct (if x.s m c<0 then x.neg m else x):=by
  rw[h3];refine(zOX h1 h.bd).mono ?_;rw[h2,Nat.mul_one];exact zA6 hM0 oM
 obtain⟨y,hy⟩:∃y,(if x.s m c<0 then x.neg m else x)=y:=⟨_,rfl⟩;have ho:∀a,a≠m->∀t,y.s a t=x.s a t:=fun a ha t=>by
  rw[<-hy];split
  ·show(if a=m then _ else x.s a t)=_
   rw[if_neg ha]
  ·rfl
 have hpos:0<y.s m c:=by
  rw[<-hy];split
  ·show 0<(if m=m then-(x.s m c)else _)
   rw[if_pos rfl];omega
  ·omega
 have hz:∀t,t<c->y.s m t=0:=fun t ht=>by
  rw[<-hy];split
  ·show(if m=m then-(x.s m t)else _)=0
   rw[if_pos rfl,hmz t ht];rfl
  ·exact hmz t ht
 rw[hy]at h3 hb ⊢
 obtain⟨l,hl1,hl2⟩:=h.ops;have hlen:(L.take k++(m,c)::L.drop k).length=L.length+1:=by simp;omega
 have er:∀a,jJ (L.take k++(m,c)::L.drop k) a=if a<k then jJ L a else if a=k then m else jJ L (a-1):=fun a=>by
  unfold jJ;rw[zI7 L hk];split
  ·rfl
  ·split<;>rfl
 have ec:∀a,zDK (L.take k++(m,c)::L.drop k) a=if a<k then zDK L a else if a=k then c else zDK L (a-1):=fun a=>by
  unfold zDK;rw[zI7 L hk];split
  ·rfl
  ·split<;>rfl
 have hrow:=h.row;have hinj:=h.inj;have hinc:=h.ech.inc;have hll:=h.len;refine⟨zH7 hl1 hl2 h1 h3,fun a ha=>?_,fun a b hab hb'=>?_,by omega,⟨fun a ha=>?_,fun a ha=>?_,fun a ha t ht=>?_,fun a b hab hb'=>?_⟩,fun a ha hna t ht=>?_,hb⟩
 ·rw[hlen]at ha
  rw[er];split
  ·have:=hrow a oM;omega
  ·split
   ·omega
   ·have:=hrow (a-1) oM;omega
 ·rw[hlen]at hb'
  rw[er a,er b];by_cases g1:a<k
  ·rw[if_pos g1]
   by_cases g2:b<k
   ·rw[if_pos g2];exact hinj a b hab oM
   ·rw[if_neg g2]
    by_cases g3:b=k
    ·rw[if_pos g3];have:=hrow a oM;omega
    ·rw[if_neg g3];exact hinj a (b-1) oM oM
  ·rw[if_neg g1,if_neg (show ¬ b<k by omega),if_neg (show ¬ b=k by omega)]
   by_cases g3:a=k
   ·rw[if_pos g3];have:=hrow (b-1) oM;omega
   ·rw[if_neg g3];exact hinj (a-1) (b-1) oM oM
 ·rw[hlen]at ha
  rw[ec];split
  ·exact h.ech.lt a oM
  ·split
   ·exact hcC
   ·exact h.ech.lt (a-1) oM
 ·rw[hlen]at ha
  show 0<y.s (jJ _ a) (zDK _ a);rw[er,ec];split
  ·rw[ho _ (by have:=hrow a oM;omega)];exact h.ech.pos a oM
  ·split
   ·exact hpos
   ·rw[ho _ (by have:=hrow (a-1) oM;omega)];exact h.ech.pos (a-1) oM
 ·rw[hlen]at ha
  show y.s (jJ _ a) t=0;rw[ec]at ht;rw[er];split
  ·rename_i g1
   rw[if_pos g1]at ht;rw[ho _ (by have:=hrow a oM;omega)];exact h.ech.zero a oM t ht
  ·rename_i g1
   rw[if_neg g1]at ht;split
   ·rename_i g2
    rw[if_pos g2]at ht;exact hz t ht
   ·rename_i g2
    rw[if_neg g2]at ht;rw[ho _ (by have:=hrow (a-1) oM;omega)];exact h.ech.zero (a-1) oM t ht
 ·rw [hlen]at hb'
  rw[ec a,ec b];by_cases g1:a<k
  ·rw[if_pos g1]
   by_cases g2:b<k
   ·rw[if_pos g2];exact hinc a b hab oM
   ·rw[if_neg g2]
    by_cases g3:b=k
    ·rw[if_pos g3];exact hlo a g1
    ·rw[if_neg g3]
     have i1:=hlo a g1;have i2:=hhi (b-1) oM oM;omega
  ·rw[if_neg g1,if_neg (show ¬ b<k by omega),if_neg (show ¬ b=k by omega)]
   by_cases g3:a=k
   ·rw[if_pos g3];exact hhi (b-1) oM oM
   ·rw[if_neg g3];exact hinc (a-1) (b-1) oM oM
 ·have ham:a≠m:=fun e=>hna k (by rw[hlen];omega) (by rw[er,if_neg oM,if_pos rfl];exact e.symm)
  rw[ho a ham];refine h.zero a oM (fun j hj=>?_) t ht;by_cases hjk:j<k
  ·have:=hna j (by rw[hlen];omega)
   rw[er,if_pos hjk]at this;exact this
  ·have:=hna (j+1) (by rw[hlen];omega)
   rw[er,if_neg oM,if_neg oM]at this;exact this
theorem zNG:∀m,m<6->∀r,r<=m+1->zNs r r<=m*(m+1)/2:=by decide
theorem zOH(hn:n<=6)(hM0:1<=M0)(hB:gk (esr r n) M0<B)(hrk:RkB r n Cs x0):zPE B n Cs Ct (JH r n Cs Ct M0 x0) (JH' r n Cs Ct M0 x0):=by
 have hg:∀a,a<=esr r n->gk a M0<B:=fun a ha=>Nat.lt_of_le_of_lt (zA6 hM0 ha) hB
 have hes:∀m,m<n->esr r m+min m r+min m r*(min m r+1)/2<=esr r n:=fun m hm=>zMQ r (show m+1<=n from hm)
 refine⟨fun m x L h=>?_,fun m x L hm h=>?_,fun m x L hm h hl=>?_,fun m x L k c hm h hl hk hc=>?_,fun m x L k c hm h hl hk hlo hhi=>?_,fun m x L hm h=>?_⟩
 ·obtain⟨h1,⟨g,g1,-,g3,g4⟩,-⟩:=h
  refine⟨g4.bd.ok (hg _ ?_),g4.lok h1⟩;rcases Nat.lt_or_ge m n with hm|hm
  ·have:=hes m hm
   have:=g4.len;have:=g4.rk h1 hrk;omega
  ·obtain rfl:m=n:=by omega
   rw[g3 rfl];exact xgf _
 ·exact⟨h.bd.ok (hg _ (by have:=hes m hm;omega)),h.lok oM⟩
 ·obtain⟨h1,⟨g,g1,-,-,h2⟩,-⟩:=h
  refine⟨h2.ops,fun k hk=>Nat.lt_succ_of_lt (h2.row k hk),h2.inj,Nat.le_succ_of_le h2.len,h2.ech,fun a ha hna t ht=>?_,h2.bd.mono (zA6 hM0 ?_)⟩
  ·by_cases e:a=m
   ·rw[e];exact zF8 hl t ht
   ·exact h2.zero a oM hna t ht
  ·have:=h2.len
   have:=h2.rk h1 hrk;omega
 ·obtain⟨h1,⟨g,g1,g2,-,h2⟩,-⟩:=h
  obtain⟨hcC,-⟩:=zBJ hl;have hgk:g<=k:=by
   refine Nat.le_of_not_lt fun hlt=>?_
   have:=g2 hm k hlt;rw[hl,show zDK L k=c from hc]at this;omega
  have hen:esr r m+g+1<=esr r n:=by
   have:=hes m hm;have:=h2.len;have:=h2.rk h1 hrk;have:g+1<=min m r:=by omega
   omega
  refine⟨fun hd=>?_,fun s t hbz=>?_,fun y hy=>?_⟩
  ·have hp:0<x.s (jJ L k) c:=by
    have:=h2.ech.pos k hk;rw[show zDK L k=c from hc]at this;exact this
   have hM:=zEd (esr r m+g) hM0;have hrm:=h2.row k hk;have hq:(x.s m c/x.s (jJ L k) c).natAbs<=gk (esr r m+g) M0:=zGq hp (h2.bd.1 m hm c hcC);refine zIs h2.bd hm (show jJ L k<n by omega) (show m≠jJ L k by omega) hM ?_;rw[Int.natAbs_neg];have e1:=zGE hM hq;have e2:=hg (esr r m+g+1) hen;rw[zC1 (esr r m+g) 1]at e2;exact Nat.lt_of_le_of_lt e1 e2
  ·exact(zIk (B:=B) hm hM0 h2 hgk hl hk hc s t hbz).1 (hg _ hen)
  ·cases hy with
   |add hd=>exact zMo hm hM0 h2 hgk hl hk hc hd
   |mix s t hd hbz=>exact(zIk (B:=B) hm hM0 h2 hgk hl hk hc s t hbz).2
 ·obtain⟨h1,⟨g,g1,-,-,h2⟩,-⟩:=h
  exact zPZ hm hM0 h2 (by have:=h2.len;have:=h2.rk h1 hrk;omega) hl hk hlo hhi
 ·have h':JC n Cs Ct M0 x0 (m+1) (esr r m+min m r) x L:=h
  have hr:zNs L.length L.length<=min m r*(min m r+1)/2:=zNG (min m r) oM L.length (by have:=h'.len;have:=h'.rk hm hrk;omega);have hen:=hes m hm;obtain⟨l,g1,g2,g3,g4,g5,g6⟩:=zJq (B:=B) (Ct:=Ct) (ρ:=jJ L) (κ:=zDK L) (fun k hk=>Nat.lt_of_lt_of_le (h'.row k hk) oM) h'.inj L.length x (gk (esr r m+min m r) M0) (xgf _) h'.bd (zEd _ hM0) h'.ech
   (fun a b h1 h2 h3=>by omega) (by rw[<-zC1];exact hg _ oM)
  obtain⟨l',k1,k2⟩:=h'.ops;refine⟨zBM l x,g1,by omega,⟨0,Nat.zero_le _,fun _ i hi=>by omega,fun _=>rfl,⟨zH7 k1 k2 g2 rfl,h'.row,h'.inj,h'.len,g4,fun a ha hna t ht=>?_,?_⟩⟩,fun _=>g5⟩
  ·rw[g6 a hna]
   exact h'.zero a ha hna t ht
  ·refine g3.mono ?_
   rw[<-zC1];refine zA6 hM0 ?_;show _<=esr r m+min m r+min m r*(min m r+1)/2+0;omega
theorem JH.fin{x:Bst}{L:List (Nat × Nat)}(h:JH r n Cs Ct M0 x0 n x L):JC n Cs Ct M0 x0 n (esr r n) x L/\zHe (fun _ _=>True) L.length (zDK L) (vw (jJ L) x.s):=by
 obtain⟨-,⟨g,-,-,g3,g4⟩,h3⟩:=h;rw[g3 rfl]at g4;exact⟨g4,h3 rfl⟩
theorem zMn(h:leB M0 n Cs Ct x0)(hM0:1<=M0):JH r n Cs Ct M0 x0 0 x0 []:=
 ⟨Nat.zero_le _,⟨0,Nat.zero_le _,fun _ i hi=>by omega,fun _=>rfl,⟨⟨[],yB.nil,rfl⟩,fun k hk=>by simp at hk,fun i j _ hj=>by simp at hj,xgf _,⟨fun k hk=>by simp at hk,fun k hk=>by simp at hk,fun k hk=>by simp at hk,fun k l _ hl=>by simp at hl⟩,fun a ha=>by omega,h.mono (zHr _ hM0)⟩⟩,fun _ i j _ hj=>by simp at hj⟩
end
theorem Blk.all9{w:World}{g:Nat}{t:TypeId}{c0 c1 c2 c3 c4 c5 c6 c7 c8:Value}(h:Blk w g t #[c0,c1,c2,c3,c4,c5,c6,c7,c8]):
  (w.cell? ⟨g,0,none⟩=some c0/\w.cell? ⟨g,1,none⟩=some c1/\w.cell? ⟨g,2,none⟩=some c2/\w.cell? ⟨g,3,none⟩=some c3/\w.cell? ⟨g,4,none⟩=some c4/\w.cell? ⟨g,5,none⟩=some c5/\w.cell? ⟨g,6,none⟩=some c6/\w.cell? ⟨g,7,none⟩=some c7/\w.cell? ⟨g,8,none⟩=some c8)/\(w.frozen? ⟨g,0,none⟩=false/\w.frozen? ⟨g,1,none⟩=false/\w.frozen? ⟨g,2,none⟩=false/\w.frozen? ⟨g,3,none⟩=false/\w.frozen? ⟨g,4,none⟩=false/\w.frozen? ⟨g,5,none⟩=false/\w.frozen? ⟨g,6,none⟩=false/\w.frozen? ⟨g,7,none⟩=false/\w.frozen? ⟨g,8,none⟩=false):=
 ⟨⟨h.cell 0,h.cell 1,h.cell 2,h.cell 3,h.cell 4,h.cell 5,h.cell 6,h.cell 7,h.cell 8⟩,⟨h.frozen 0,h.frozen 1,h.frozen 2,h.frozen 3,h.frozen 4,h.frozen 5,h.frozen 6,h.frozen 7,h.frozen 8⟩⟩
theorem Blk.put9{w:World}{g:Nat}{t:TypeId}{c0 c1 c2 c3 c4 c5 c6 c7 c8:Value}(h:Blk w g t #[c0,c1,c2,c3,c4,c5,c6,c7,c8])(x0 x1 x2 x3 x4 x5 x6 x7 x8:Value):Blk (((((((((w.setCell ⟨g,0,none⟩ x0).setCell ⟨g,1,none⟩ x1).setCell ⟨g,2,none⟩ x2).setCell ⟨g,3,none⟩ x3).setCell ⟨g,4,none⟩ x4).setCell ⟨g,5,none⟩ x5).setCell ⟨g,6,none⟩ x6).setCell ⟨g,7,none⟩ x7).setCell ⟨g,8,none⟩ x8) g t #[x0,x1,x2,x3,x4,x5,x6,x7,x8]:=by
 simpa using(((((((((h.set_ 0 x0).set_ 1 x1).set_ 2 x2).set_ 3 x3).set_ 4 x4).set_ 5 x5).set_ 6 x6).set_ 7 x7).set_ 8 x8)
theorem Blk.lext9{w:World}{g:Nat}{t:TypeId}{cs:Array Value}(h:Blk w g t cs)(hne:t≠tU)(x0 x1 x2 x3 x4 x5 x6 x7 x8:Value):yI w (((((((((w.setCell ⟨g,0,none⟩ x0).setCell ⟨g,1,none⟩ x1).setCell ⟨g,2,none⟩ x2).setCell ⟨g,3,none⟩ x3).setCell ⟨g,4,none⟩ x4).setCell ⟨g,5,none⟩ x5).setCell ⟨g,6,none⟩ x6).setCell ⟨g,7,none⟩ x7).setCell ⟨g,8,none⟩ x8):=
 (((((((((h.lext hne 0 x0).trans ((h.set_ 0 x0).lext hne 1 x1)).trans (((h.set_ 0 x0).set_ 1 x1).lext hne 2 x2)).trans ((((h.set_ 0 x0).set_ 1 x1).set_ 2 x2).lext hne 3 x3)).trans (((((h.set_ 0 x0).set_ 1 x1).set_ 2 x2).set_ 3 x3).lext hne 4 x4)).trans ((((((h.set_ 0 x0).set_ 1 x1).set_ 2 x2).set_ 3 x3).set_ 4 x4).lext hne 5 x5)).trans (((((((h.set_ 0 x0).set_ 1 x1).set_ 2 x2).set_ 3 x3).set_ 4 x4).set_ 5 x5).lext hne 6 x6)).trans ((((((((h.set_ 0 x0).set_ 1 x1).set_ 2 x2).set_ 3 x3).set_ 4 x4).set_ 5 x5).set_ 6 x6).lext hne 7 x7)).trans (((((((((h.set_ 0 x0).set_ 1 x1).set_ 2 x2).set_ 3 x3).set_ 4 x4).set_ 5 x5).set_ 6 x6).set_ 7 x7).lext hne 8 x8))
theorem zNP(w:World)(g k:Nat)(x0 x1 x2 x3 x4 x5 x6 x7 x8:Value)(hk:k≠g):((((((((((w.setCell ⟨g,0,none⟩ x0).setCell ⟨g,1,none⟩ x1).setCell ⟨g,2,none⟩ x2).setCell ⟨g,3,none⟩ x3).setCell ⟨g,4,none⟩ x4).setCell ⟨g,5,none⟩ x5).setCell ⟨g,6,none⟩ x6).setCell ⟨g,7,none⟩ x7).setCell ⟨g,8,none⟩ x8)).heap[k]?=w.heap[k]?:=
 ((zU _ g 8 k x8 hk).trans ((zU _ g 7 k x7 hk).trans ((zU _ g 6 k x6 hk).trans ((zU _ g 5 k x5 hk).trans ((zU _ g 4 k x4 hk).trans ((zU _ g 3 k x3 hk).trans ((zU _ g 2 k x2 hk).trans ((zU _ g 1 k x1 hk).trans (zU _ g 0 k x0 hk)))))))))
theorem zPO{B:Nat}{a w:World}{g:Nat}(h:Below B a w)(hp:B<=g)(x0 x1 x2 x3 x4 x5 x6 x7 x8:Value):Below B a (((((((((w.setCell ⟨g,0,none⟩ x0).setCell ⟨g,1,none⟩ x1).setCell ⟨g,2,none⟩ x2).setCell ⟨g,3,none⟩ x3).setCell ⟨g,4,none⟩ x4).setCell ⟨g,5,none⟩ x5).setCell ⟨g,6,none⟩ x6).setCell ⟨g,7,none⟩ x7).setCell ⟨g,8,none⟩ x8):=
 (zO (zO (zO (zO (zO (zO (zO (zO (zO h hp 0 x0) hp 1 x1) hp 2 x2) hp 3 x3) hp 4 x4) hp 5 x5) hp 6 x6) hp 7 x7) hp 8 x8)
def zP7(t:TypeId)(n0:Nat)(cs:Array Value):World->Value->Prop:=fun w v=>∃b,v= .pointer (some ⟨b,0,none⟩)/\n0<=b/\Blk w b t cs
theorem zHv(t:TypeId)(n0:Nat)(cs:Array Value):qK (zP7 t n0 cs):=fun _ _ _ e ⟨b,h1,h2,h3⟩=>⟨b,h1,h2,h3.below e⟩
abbrev tHe:TypeId:=132
def SlP(R:Nat):World->Value->Prop:=fun _ v=>∃o c,v= .slice o R c
theorem zJY(R:Nat):qK (SlP R):=fun _ _ _ _ h=>h
theorem Blk.neT{w:World}{a b:Nat}{T T':TypeId}{cs cs':Array Value}(h:Blk w a T cs)(k:Blk w b T' cs')(hT:T≠T'):a≠b:=by
 intro e;subst e;have h':w.heap[a]?=some (.cells cs T (0,0)):=h;have k':w.heap[a]?=some (.cells cs' T' (0,0)):=k;rw[h']at k';injection k' with q1
 injection q1 with _ ht
 exact hT ht
theorem zO6{al_:List AS}{k:Nat}(h:(al_.all fun a=>!(a.op==k))=true):∀a∈al_,a.op≠k:=fun a ha e=>by
 have:=List.all_eq_true.1 h a ha;simp[e]at this
theorem Wri.nzb{w:World}{A:Value}{R C:Nat}{bs:List Nat}{F:Nat->Nat->Int}(h:Wri w A R C bs F){wb:Nat}{T:TypeId}{cs:Array Value}(hw:Blk w wb T cs)(h1:T≠tR)(h2:T≠tI):¬ Zn A bs wb:=by
 intro hh;have hw':w.heap[wb]?=some (.cells cs T (0,0)):=hw;rcases hh with hb|hb
 ·obtain⟨r,cs',q1,-⟩:=h.blk hb
  rw[hw']at q1;injection q1 with q1
  injection q1 with _ ht
  exact h2 ht
 ·rcases(zT.own h).2 with⟨rfl,-⟩|⟨g,cap,cur,rfl,-,hh,-⟩
  ·cases hb
  ·simp only[Value.ownBlock,Option.some.injEq]at hb
   subst hb;rw[hw']at hh;injection hh with q1
   injection q1 with _ ht
   exact h1 ht
theorem zBl:∀(l m:List Nat),l.Nodup->(∀x∈l,x∈m)->l.length<=m.length
 | [],m,_,_=>Nat.zero_le _
 |a::l,m,h,hs=>by
  have ha:=hs a (List.mem_cons_self ..);obtain⟨h1,h2⟩:=List.nodup_cons.1 h;have ih:=zBl l (m.erase a) h2 (fun x hx=>(List.mem_erase_of_ne (fun e=>by subst e;exact h1 hx)).2 (hs x (List.mem_cons_of_mem _ hx)));rw[List.length_erase_of_mem ha]at ih;have:=List.length_pos_of_mem ha;simp only[List.length_cons];omega
def zGW(n C:Nat)(F:Nat->Nat->Int)(L:List (Nat × Nat)):List Nat:=L.map (·.1)++(List.range n).filter fun i=>decide (lead C F i<0)
theorem zJi{n C m:Nat}{x:Bst}{L:List (Nat × Nat)}(h:LOk n C m x L):(L.map (·.1)).Nodup:=by
 rw[List.nodup_iff_pairwise_ne,List.pairwise_iff_getElem];intro i j hi hj hij;simp only[List.length_map]at hi hj;have:=h.inj i j hij hj;rw[xgb,xgb,xga hi,xga hj]at this;simpa using this
theorem zM0{L:List (Nat × Nat)}{a:Nat}(h:a∈L.map (·.1)):∃k,k<L.length/\(L.getD k (0,0)).1=a:=by
 obtain⟨p,hp,rfl⟩:=List.mem_map.1 h;obtain⟨k,hk,e⟩:=List.getElem_of_mem hp;exact⟨k,hk,by rw[xgb,xga hk,e];rfl⟩
theorem zHH{n C m:Nat}{x:Bst}{L:List (Nat × Nat)}(h:LOk n C m x L){a:Nat}(ha:a∈L.map (·.1)):a<n/\¬ lead C x.s a<0:=by
 obtain⟨k,hk,rfl⟩:=zM0 ha;obtain⟨-,h2,h3,h4⟩:=h.mem k hk;exact⟨h2,fun hl=>h4 (zF8 hl _ h3)⟩
theorem zGG{n C m:Nat}{x:Bst}{L:List (Nat × Nat)}(h:LOk n C m x L):∀a∈zGW n C x.s L,a<n:=by
 intro a ha;rcases List.mem_append.1 ha with ha|ha
 ·exact(zHH h ha).1
 ·simp only[List.mem_filter,List.mem_range]at ha
  exact ha.1
theorem zDf{n C m:Nat}{x:Bst}{L:List (Nat × Nat)}(h:LOk n C m x L):(zGW n C x.s L).Nodup:=by
 unfold zGW;rw[List.nodup_append];refine⟨zJi h,List.Nodup.sublist List.filter_sublist List.nodup_range,fun a ha b hb e=>?_⟩;subst e;simp only[List.mem_filter,decide_eq_true_eq]at hb;exact(zHH h ha).2 hb.2
theorem zM8{n C m:Nat}{x:Bst}{L:List (Nat × Nat)}(h:LOk n C m x L)(hz:∀a,a<n->(∀k,k<L.length->(L.getD k (0,0)).1≠a)->lead C x.s a<0):(zGW n C x.s L).length=n:=by
 have h1:=zBl _ (List.range n) (zDf h) (fun a ha=>List.mem_range.2 (zGG h a ha));have h2:=zBl (List.range n) (zGW n C x.s L) List.nodup_range (fun a ha=>by
  have ha:=List.mem_range.1 ha;by_cases hm:a∈L.map (·.1)
  ·exact List.mem_append.2 (.inl hm)
  ·refine List.mem_append.2 (.inr ?_)
   simp only[List.mem_filter,List.mem_range,decide_eq_true_eq];refine⟨ha,hz a ha fun k hk e=>hm ?_⟩;rw[<-e,xgb,xga hk];exact List.mem_map.2 ⟨_,List.getElem_mem hk,rfl⟩)
 simp only[List.length_range]at h1 h2;omega
theorem StP.mono{lo lo' R C:Nat}{F:Nat->Nat->Int}{w:World}{v:Value}(h:StP lo R C F w v)(hl:lo'<=lo):StP lo' R C F w v:=by
 obtain⟨g,a,b,c,h1,h0,h5,⟨bs,h2,h2'⟩,h3,h4⟩:=h;exact⟨g,a,b,c,h1,Nat.le_trans hl h0,h5,⟨bs,h2,fun b hb=>Nat.le_trans hl (h2' b hb)⟩,h3,h4⟩
theorem zEb{T:Array Value}{i j:Nat}{v d:Value}(h:i≠j):(T.setIfInBounds i v).getD j d=T.getD j d:=by
 rw[Array.getD_eq_getD_getElem?,Array.getD_eq_getD_getElem?,xgc h]
theorem zIZ{T:Array Value}{i:Nat}{v d:Value}(h:T[i]?=some v):T.getD i d=v:=by
 rw[Array.getD_eq_getD_getElem?,h];rfl
theorem zRP{vs:List VS}{k:Nat}(h:(vs.all fun a=>!(a.op==k))=true):∀a∈vs,a.op≠k:=fun a ha e=>by
 have:=List.all_eq_true.1 h a ha;simp[e]at this
theorem zRG{vs:List MS}{k:Nat}(h:(vs.all fun a=>!(a.op==k))=true):∀a∈vs,a.op≠k:=fun a ha e=>by
 have:=List.all_eq_true.1 h a ha;simp[e]at this
theorem zX.ofB{B:Nat}{w w':World}(h:Below B w w')(hx:yI w w'):zX (fun b=>B<=b) w w':=⟨h.mono (Nat.zero_le _),hx,fun k _ hn=>h.block k (Nat.lt_of_not_le hn)⟩
theorem zBd.type{w:World}{base:Nat}{v:Value}{xs:List Nat}(h:zBd w base v xs):∀g,v.ownBlock=some g->∃cs,Blk w g tNn cs:=by
 intro g hg;rcases h.2.2 with⟨rfl,-⟩|⟨g',cap,cur,rfl,-,hh,-⟩
 ·cases hg
 ·simp only[Value.ownBlock,Option.some.injEq]at hg
  subst hg;exact⟨_,hh⟩
theorem zBd.ne{w:World}{base:Nat}{v:Value}{xs:List Nat}(h:zBd w base v xs){b:Nat}{T:TypeId}{cs:Array Value}(hb:Blk w b T cs)(hT:T≠tNn):v.ownBlock≠some b:=by
 intro e;obtain⟨cs',h2⟩:=h.type b e;exact Blk.neT hb h2 hT rfl
theorem zBd.far{w:World}{base:Nat}{v:Value}{xs:List Nat}(h:zBd w base v xs){b:Nat}{T:TypeId}{cs:Array Value}(hb:Blk w b T cs)(hT:T≠tNn)(i:Nat)(u:Value):zBd (w.setCell ⟨b,i,none⟩ u) base v xs:=by
 obtain⟨h1,h2,h3⟩:=id h;refine⟨h1,h2,?_⟩;rcases h3 with h3|⟨g,cap,cur,rfl,k1,k2,k3⟩
 ·exact .inl h3
 ·exact .inr ⟨g,cap,cur,rfl,k1,(zU _ _ _ _ _ (fun e=>h.ne hb hT (by simp[Value.ownBlock,e]))).trans k2,k3⟩
def zNj(R C:Nat)(M:List (List Int)):World->Value->Prop:=fun w v=>∃o c,v= .agg #[.int .i64 R,.int .i64 C,.slice o R c]/\jA w (.slice o R c) M
theorem zBj(R C:Nat)(M:List (List Int)):qK (zNj R C M):=fun _ _ _ x ⟨o,c,h1,h2⟩=>⟨o,c,h1,h2.below x⟩
theorem jA.slice{w:World}{v:Value}{M:List (List Int)}(h:jA w v M):∃o c,v= .slice o M.length c:=by
 obtain⟨ao,n,cap,e1,e2,-⟩:=h;exact⟨ao,cap,by rw[e1,e2]⟩
theorem zCn(Ah ov:Value)(n Cs nb ob base:Nat)(bss os:List Nat)(F:Nat->Nat->Int)(w:World)(hw:Wri w Ah n Cs bss F)(hnb:Blk w nb 3 #[.int .i64 n])(hob:Blk w ob 52 #[ov])(hov:zBd w base ov os)
  (hos:∀x∈os,x<n) (hnd:os.Nodup) (hn:n<=1000000) (hCs:Cs<=1000000) (hlen:os.length=n):
  Calls Tryz.prog 154 #[Ah,.int .i64 Cs,.pointer (some ⟨nb,0,none⟩),.pointer (some ⟨ob,0,none⟩)] w fun e w'=>∃v,e= .returned v/\zNj n Cs (os.map fun i=>zM Cs (F i)) w' v/\Below w.heap.size w w':=by
 refine(zH8 Ah ov n Cs nb ob base bss os F w hw hnb hob hov hos hnd hn hCs oM).mono ?_;rintro e w' ⟨v,bs',rfl,h1,-,h3⟩;have h2:=zT.rows h1.rows0;obtain⟨o,c,rfl⟩:=jA.slice h2;have hl:(os.map fun i=>zM Cs (F i)).length=n:=by simp[hlen]
 rw[hl]at h2 ⊢
 exact⟨_,rfl,⟨o,c,rfl,h2⟩,h3⟩
structure zHb(w:World)(f:Value)(R C:Nat)(H U V:List (List Int)):Prop where
 ex:∃h u v,f= .agg #[.int .i64 R,.int .i64 C,h,.int .i64 R,.int .i64 R,u,.int .i64 R,.int .i64 R,v]/\jA w h H/\jA w u U/\jA w v V
def zN1(R C:Nat)(H U V:List (List Int)):World->Value->Prop:=fun w f=>∃ho hc uo uc vo vc,f= .agg #[.int .i64 R,.int .i64 C,.slice ho R hc,.int .i64 R,.int .i64 R,.slice uo R uc,.int .i64 R,.int .i64 R,.slice vo R vc]/\jA w (.slice ho R hc) H/\jA w (.slice uo R uc) U/\jA w (.slice vo R vc) V
theorem zGx(R C:Nat)(H U V:List (List Int)):qK (zN1 R C H U V):=fun _ _ _ x ⟨a,b,c,d,e,f,h1,h2,h3,h4⟩=>⟨a,b,c,d,e,f,h1,h2.below x,h3.below x,h4.below x⟩
theorem Tryz.sizeHe:(Tryz.prog.info? tHe).map (·.size)=some 9:=by kernel_rfl
theorem zOJ{os:List Nat}{C:Nat}{F:Nat->Nat->Int}{a b:Nat}(ha:a<os.length)(hb:b<C):ent (os.map fun i=>zM C (F i)) a b=F (os.getD a 0) b:=by
 have h1:(os.map fun i=>zM C (F i))[a]?=some (zM C (F (os.getD a 0))):=by
  rw[List.getElem?_map,xga ha,Option.map_some,xgb,xga ha];rfl
 exact zBE h1 (zP hb)
theorem zMU{os:List Nat}{C n:Nat}{F:Nat->Nat->Int}(h:os.length=n):jT n C (os.map fun i=>zM C (F i)):=by
 refine⟨by simp[h],fun r hr=>?_⟩;obtain⟨i,-,rfl⟩:=List.mem_map.1 hr;exact zD _ _
theorem zJ2{w:World}{v:Value}{n B:Nat}{os:List Nat}{F:Nat->Nat->Int}(hB:BSm B)(h:zNj n n (os.map fun i=>zM n (F i)) w v)(hl:os.length=n)(ho:∀x∈os,x<n)(hok:okF B n n F)(hn:n<=1000000):
  Calls Tryz.prog 155 #[v] w fun e w'=>∃v,e= .returned v/\zNj n n (zY n n fun a b=>F (os.getD b 0) a) w' v/\Below w.heap.size w w':=by
 obtain⟨o,c,rfl,hr⟩:=h;refine(zCW _ n n _ w ⟨_,rfl,hr⟩ (zMU hl) hn hn ?_).mono ?_
 ·intro r hr z hz
  obtain⟨i,hi,rfl⟩:=List.mem_map.1 hr;obtain⟨j,hj,e⟩:=List.getElem_of_mem hz;rw[zD]at hj;have e2:=zP (f:=F i) hj;rw[xga (by rw[zD];exact hj),e]at e2;injection e2 with e2
  rw[e2];exact hB.sm _ (hok i (ho i hi) j hj)
 ·intro e w' hr
  have hq:zY n n (fun a b=>ent (os.map fun i=>zM n (F i)) b a)=zY n n (fun a b=>F (os.getD b 0) a):=qM fun i hi j hj=>zOJ oM hi
  rw[hq]at hr;obtain⟨v,rfl,⟨o,c,bs,h1,h2,h3⟩,hb⟩:=zBB.within hr;exact⟨v,rfl,⟨o,c,h1,zT.rows h2⟩,hb⟩
theorem zIx{C:Nat}{F:Nat->Nat->Int}(k:Nat):((List.range (k+1)).filter fun i=>decide (lead C F i<0))=((List.range k).filter fun i=>decide (lead C F i<0))++(if lead C F k<0 then [k]else []):=by
 rw[List.range_succ,List.filter_append];congr 1;by_cases h:lead C F k<0
 ·rw[if_pos h];simp[h]
 ·rw[if_neg h];simp[h]
theorem zKq{B:Nat}(hB:BSd B)(v:Value)(M:List (List Int))(R C:Nat)(w:World)(h:jE w v R C M)(hF:jT R C M)(hR:R<=1000000)(hC:C<=1000000)(hok:okF B R C (ent M))(s1:Sm 1){J J':Nat->Bst->List (Nat × Nat)->Prop}(hE:zPE B R C R J J')(hJ:J 0 ⟨ent M,idf,idf⟩ [])
  (hend:∀y L,J R y L->∀a,a<R->(∀k,k<L.length->(L.getD k (0,0)).1≠a)->lead C y.s a<0):
  Calls Tryz.prog 69 #[v] w fun e w'=>∃v y L,e= .returned v/\J R y L/\(zGW R C y.s L).length=R/\zHb w' v R C ((zGW R C y.s L).map fun i=>zM C (y.s i)) ((zGW R C y.s L).map fun i=>zM R (y.t i)) (zY R R fun a b=>y.i ((zGW R C y.s L).getD b 0) a)/\Below w.heap.size w w':=by
 have h0:=h;obtain⟨A,rfl,h⟩:=h;obtain⟨ao,n,cap,rfl,e2,e3,e4,-⟩:=id h;obtain rfl:R=n:=by rw[<-e2,hF.1]
 have hdv:decide (qX R C M)=true:=decide_eq_true hF.valid;have HF:=xgv hF;have HOK:=xgv hok;have H0:=xgv h0;have S1:=xgv s1;have HE:=xgv hE;have HJ:=xgv hJ;have HEND:=xgv hend;clear hok h0 hF e2 s1 hE hJ hend;go_enter Tryz.func69,Tryz.ntmps69;go_upto_region 1 with(fail)
 refine zB ?_;intro W0 hW0;obtain⟨hB0,bx1,br,hs0⟩:=qH hW0;obtain⟨c1,c2,c3,c4,c5,c6⟩:=bx1.three;clear hW0;go_wp2_with fail
 refine(yF _ R C M W0 (H0.out.below hB0)).mono ?_;rintro e w1 ⟨rfl,hb1⟩;rw[hdv];have bx1:=bx1.below hb1;have br:=br.below hb1;have hB1:=nx hB0 hb1;have hs1:=hb1.size;clear c1 c2 c3 c4 c5 c6 hdv;obtain⟨c1,c2,c3,c4,c5,c6⟩:=bx1.three;have hl1:=zFW w1.heap.size R C (ent M);have hl2:=zHv 3 w1.heap.size #[.int .i64 0];go_upto_region 3 with(fail)
 refine zC 5 rfl (RV w1 _ [VP 0 13 w.heap.size 0,VN 1 14 R,E 2 15 (.agg #[.int .i64 R,.int .i64 C,.slice ao R cap]),⟨3,16,StP w1.heap.size R C (ent M)⟩,⟨4,3,zP7 3 w1.heap.size #[.int .i64 0]⟩]) kR RV.start (RV.fin kR ?fin1) ?steps1
 case steps1=>
  (repeat' constructor)<;>(intro L T wS hL hd hcl hI K hK;try refine zA rfl ?_)
  ·exact xgs (hI.k 1 rfl kR)
  ·have zt0:=hI.e mm0 (hd 0)
   have cc0:=hI.cell c1;exact xgu
  ·have zt:=hI.k 1 rfl kR
   have cc0:=hI.cell c1;have cc1:=hI.cell c2;have cc2:=hI.cell c3;exact xgu
  ·obtain⟨_,zt2,rfl⟩:=hI.v mm2 (hd 2)
   go_simp;refine(zLq hB.bsm _ M R C _ ((H0.out.below hB1).below hI.bel).off HF.out hR hC HOK.out S1.out).mono ?_;rintro e wa ⟨v,rfl,hv,hba⟩;exact hK _ _ ((hI.world hba).y mm3 (hv.mono hI.bel.size))
  ·go_simp
   exact hK _ _ ((hI.world ((Below.refl _ _).alloc (xgf _) _)).y mm4 ⟨_,rfl,hI.bel.size,Blk.new _ _ _⟩)
 intro w2 hbw2 T hT;simp only[Fin,E,EI,VP,VSl,VN,xgg,xgh,xgi,xgj]at hT;obtain⟨va3,ha3,va4,ha4,rfl⟩:=hT;simp only[xgl,xgk];obtain⟨bw,Ah,Au,Av,rfl,q1,q2,q3,-,-⟩:StP w1.heap.size R C (ent M) w2 va3:=ha3;obtain⟨bn,rfl,q4,q5⟩:zP7 3 w1.heap.size #[.int .i64 0] w2 va4:=ha4;obtain⟨bss,hws,hzs⟩:=q3;obtain⟨n1,n2⟩:w2.cell? ⟨bn,0,none⟩=some (.int .i64 0)/\w2.frozen? ⟨bn,0,none⟩=false:=⟨q5.cell 0,q5.frozen 0⟩;have hnbw:bn≠bw:=Blk.neT q5 q2 dE;have hB2:=nx hB1 hbw2;have br:=br.below hbw2;have bx1:=bx1.below hbw2;have hs2:=hbw2.size;clear c1 c2 c3 c4 c5 c6 hl1 hl2;go_upto_region 4 with(fail)
 refine zB ?_;intro W2 hW2;have ho2:zX (fun b=>b=bn) w2 W2:=by rw[hW2.out];exact⟨zO (Below.refl _ _) (Nat.zero_le _) _ _,q5.lext dE _ _,fun b _ hb=>zU _ _ _ _ _ hb⟩
 have hB2:Below w.heap.size w W2:=by rw[hW2.out];exact zO hB2 oM _ _
 have hws:=hws.keepZ ho2 (by rintro b hb rfl;exact hws.nzb q5 dE dE hb);have q2:=ho2.blk q2 (Ne.symm hnbw);have br:=ho2.blk br oM;have bx1:=ho2.blk bx1 oM;have q5:Blk W2 bn 3 #[.int .i64 R]:=by rw[hW2.out];simpa using q5.set_ 0 (.int .i64 R)
 have hs2:=Nat.le_trans hs2 ho2.bel.size;have n1:=q5.cell 0;have hl1:=zJY R;have lws:∀b,Zn Ah bss b->b<W2.heap.size:=fun b hb=>hws.zlt hb
 have HWS:=xgv hws;have LWS:=xgv lws;have hlb:=q2.lt;obtain⟨so,sc,rfl⟩:=hws.shape;clear hW2 ho2 n2 hws lws;refine zC 11 rfl (RXS W2 _ [⟨0,17,fun _ v=>v= .pointer (some ⟨bw,0,none⟩)⟩,⟨1,18,fun _ v=>v= .pointer (some ⟨bw,0,none⟩)⟩,⟨2,19,fun _ v=>v= .int .i64 R⟩,⟨4,21,SlP R⟩,⟨5,22,fun _ v=>v= .int .i64 R⟩,⟨7,24,SlP R⟩,⟨8,25,fun _ v=>v= .pointer (some ⟨bw,0,none⟩)⟩,⟨9,26,fun _ v=>v= .pointer (some ⟨bw,1,none⟩)⟩] [⟨3,20,R,R,idf⟩,⟨6,23,R,R,idf⟩] [⟨4,21,⟨3,20,R,R,idf⟩⟩,⟨7,24,⟨6,23,R,R,idf⟩⟩] 10 (fun T w=>w.setCell ⟨bw,1,none⟩ (T.getD 21 undef))) kR (RXS.start (RX.start kR (by repeat' (first|exact yL _|exact jC _|assumption|refine xgm.2 ⟨?_,?_⟩|exact xgn _)) (by
   refine xgm.2 ⟨⟨mm0,_,mm3,rfl,rfl⟩,xgm.2 ⟨⟨mm1,_,mm5,rfl,rfl⟩,xgn _⟩⟩))) ?finX ?stepsX
 case stepsX=>
  refine⟨?_,?_,?_,?_,?_,?_,?_,?_,?_,?_,?_,trivial⟩
  ·refine zF.liftX kR dE ?_
   intro L T wS hL hd hcl hI K hK;try refine zA rfl ?_
   have zt:T[4]?=some (.pointer (some ⟨bw,0,none⟩)):=hI.g.keep 4 sI sI;go_simp;exact hK _ _ (hI.y mm0 rfl (zO6 kR))
  ·intro L T wS hL hd hcl hI K hK
   try refine zA rfl ?_
   have zt:T[4]?=some (.pointer (some ⟨bw,0,none⟩)):=by
    obtain⟨w0,h0,-,-⟩:=hI;exact h0.g.keep 4 sI sI
   go_simp;exact hK _ _ (hI.step (fun w0 h0=>h0.y mm1 rfl (zO6 kR)) dE (fun w=>by rw[zEb dE]))
  ·refine zF.liftX kR dE ?_
   intro L T wS hL hd hcl hI K hK;try refine zA rfl ?_
   have zt:T[3]?=some (.pointer (some ⟨bn,0,none⟩)):=hI.g.keep 3 sI sI;have cc0:=hI.g.cell n1;go_simp;exact hK _ _ (hI.y mm2 rfl (zO6 kR))
  ·refine zF.liftX kR dE ?_
   intro L T wS hL hd hcl hI K hK;try refine zA rfl ?_
   obtain⟨_,zt2,rfl⟩:=hI.g.val _ mm2 (hd 2);go_simp;refine(zFZ R _ hR).mono ?_;rintro e wa ⟨v,rfl,hv,hba⟩;exact hK _ _ (hI.mat hcl hL ⟨3,20,_,_,_⟩ mm0 rfl hba hv kR)
  ·refine zF.liftX kR dE ?_
   intro L T wS hL hd hcl hI K hK;try refine zA rfl ?_
   obtain⟨_,zt3,o,c,rfl⟩:=hI.g.matv ⟨3,20,R,R,idf⟩ mm0 (hd 3);go_simp;exact hK _ _ (hI.alias ⟨4,21,⟨3,20,R,R,idf⟩⟩ mm0 ⟨4,21,SlP R⟩ mm3 rfl rfl ⟨o,c,rfl⟩ (hd 3) (by
    refine xgm.2 ⟨fun _=>rfl,xgm.2 ⟨fun e=>absurd e (by dsimp only;omega),xgn _⟩⟩) zt3 rfl)
  ·refine zF.liftX kR dE ?_
   intro L T wS hL hd hcl hI K hK;try refine zA rfl ?_
   have zt:T[3]?=some (.pointer (some ⟨bn,0,none⟩)):=hI.g.keep 3 sI sI;have cc0:=hI.g.cell n1;go_simp;exact hK _ _ (hI.y mm4 rfl (zO6 kR))
  ·refine zF.liftX kR dE ?_
   intro L T wS hL hd hcl hI K hK;try refine zA rfl ?_
   obtain⟨_,zt5,rfl⟩:=hI.g.val _ mm4 (hd 5);go_simp;refine(zFZ R _ hR).mono ?_;rintro e wa ⟨v,rfl,hv,hba⟩;exact hK _ _ (hI.mat hcl hL ⟨6,23,_,_,_⟩ mm1 rfl hba hv kR)
  ·intro L T wS hL hd hcl hI K hK
   try refine zA rfl ?_
   obtain⟨o,c,zt6⟩:∃o c,T[23]?=some (.agg #[.int .i64 R,.int .i64 R,.slice o R c]):=by
    obtain⟨w0,h0,-,-⟩:=hI;obtain⟨_,zt6,o,c,rfl⟩:=h0.g.matv ⟨6,23,R,R,idf⟩ mm1 (hd 6);exact⟨o,c,zt6⟩
   have h6:=hd 6 kR;go_simp;exact hK _ _ (hI.step (fun w0 h0=>h0.alias ⟨7,24,⟨6,23,R,R,idf⟩⟩ mm1 ⟨7,24,SlP R⟩ mm5 rfl rfl ⟨o,c,rfl⟩ h6 (by
    refine xgm.2 ⟨fun e=>absurd e (by dsimp only;omega),xgm.2 ⟨fun _=>rfl,xgn _⟩⟩) zt6 rfl) dE (fun w=>by rw[zEb dE]))
  ·refine zF.liftX kR dE ?_
   intro L T wS hL hd hcl hI K hK;try refine zA rfl ?_
   obtain⟨_,zt0,rfl⟩:=hI.g.val _ mm0 (hd 0);go_simp;exact hK _ _ (hI.y mm6 rfl (zO6 kR))
  ·refine zF.liftX kR dE ?_
   intro L T wS hL hd hcl hI K hK;try refine zA rfl ?_
   obtain⟨_,zt8,rfl⟩:=hI.g.val _ mm6 (hd 8);go_simp;exact hK _ _ (hI.y mm7 rfl (zO6 kR))
  ·intro L T wS hL hd hcl hJ K hK
   try refine zA rfl ?_
   have hI:=hJ.here hL;obtain⟨_,zt9,rfl⟩:=hI.g.val _ mm7 (hd 9);obtain⟨_,zt4,o,c,rfl⟩:=hI.g.val _ mm3 (hd 4);obtain⟨g1,g2,g3,g4,g5,g6⟩:=(q2.below hI.g.bel).three;go_simp;exact hK _ _ (RXS.store hI hL (zRP kR) (zRG kR) (by show _=World.setCell _ _ _;rw[zIZ zt4]))
 intro T w3 hJ;obtain⟨w0,hX,-,hst⟩:=hJ;replace hst:=hst kR;obtain⟨bot,top,g1,g2⟩:=hX.g.gh;obtain⟨k1,k2,m1,k3,k4⟩:=g1 ⟨3,20,R,R,idf⟩ mm0 rfl;obtain⟨k5,k6,m2,k7,k8⟩:=g1 ⟨6,23,R,R,idf⟩ mm1 rfl;have k9:=g2 ⟨3,20,R,R,idf⟩ mm0 ⟨6,23,R,R,idf⟩ mm1 (by dsimp only;omega) rfl rfl;obtain⟨-,o1,c1,a1,a2⟩:=hX.al ⟨4,21,⟨3,20,R,R,idf⟩⟩ mm0 rfl;obtain⟨-,o2,c2,a3,a4⟩:=hX.al ⟨7,24,⟨6,23,R,R,idf⟩⟩ mm1 rfl;have e21:T.getD 21 undef= .slice o1 R c1:=zIZ a2;replace hst:w3=w0.setCell ⟨bw,1,none⟩ (T.getD 21 undef):=hst;rw[e21]at hst;obtain⟨_,z17,rfl⟩:=hX.g.val _ mm0 rfl;obtain⟨_,z18,rfl⟩:=hX.g.val _ mm1 rfl;obtain⟨_,z19,rfl⟩:=hX.g.val _ mm2 rfl;obtain⟨_,z22,rfl⟩:=hX.g.val _ mm4 rfl;obtain⟨_,z25,rfl⟩:=hX.g.val _ mm6 rfl;obtain⟨_,z26,rfl⟩:=hX.g.val _ mm7 rfl;have hT:=zAJ [(17,.pointer (some ⟨bw,0,none⟩)),(18,.pointer (some ⟨bw,0,none⟩)),(19,.int .i64 R),(21,.slice o1 R c1),(22,.int .i64 R),(24,.slice o2 R c2),(25,.pointer (some ⟨bw,0,none⟩)),(26,.pointer (some ⟨bw,1,none⟩)),(20,.agg #[.int .i64 R,.int .i64 R,.slice o1 R c1]),(23,.agg #[.int .i64 R,.int .i64 R,.slice o2 R c2])]
  (fun j hj=>hX.g.keep j (by simp only[xgm]at hj ⊢;simp[hj]) (by simp only[xgm]at hj ⊢;simp[hj]))
  (by simp only[xgm];simp[z17,z18,z19,a2,z22,a4,z25,z26,a1,a3]) hX.g.size
 have hbl:=hX.g.bel;obtain⟨bst,wt,zt⟩:∃bst,Wri w0 (.slice o1 R c1) R R bst idf/\∀b,Zn (.slice o1 R c1) bst b->bot 3<=b/\b<top 3:=by
  obtain⟨o',c',bst,e,q1,q2⟩:=k4;have e1:=k3.symm.trans a1;injection e1 with e1
  rw[e1]at e;injection e with e
  simp only[Array.mk.injEq,List.cons.injEq,Value.slice.injEq,true_and,and_true]at e;obtain⟨rfl,rfl⟩:=e;exact⟨bst,q1,q2⟩
 obtain⟨bsi,wi,zi⟩:∃bsi,Wri w0 (.slice o2 R c2) R R bsi idf/\∀b,Zn (.slice o2 R c2) bsi b->bot 6<=b/\b<top 6:=by
  obtain⟨o',c',bst,e,q1,q2⟩:=k8;have e1:=k7.symm.trans a3;injection e1 with e1
  rw[e1]at e;injection e with e
  simp only[Array.mk.injEq,List.cons.injEq,Value.slice.injEq,true_and,and_true]at e;obtain⟨rfl,rfl⟩:=e;exact⟨bst,q1,q2⟩
 dsimp only at k1 k2 k5 k6 k9;have hWA:=HWS.out.below hbl;have p1:Ap (.slice so R sc) bss (.slice o1 R c1) bst:=yW (a:=0) (b:=W2.heap.size) (fun x hx=>⟨Nat.zero_le _,LWS.out x hx⟩) zt k1;have p2:Ap (.slice so R sc) bss (.slice o2 R c2) bsi:=yW (a:=0) (b:=W2.heap.size) (fun x hx=>⟨Nat.zero_le _,LWS.out x hx⟩) zi k5;have p3:Ap (.slice o1 R c1) bst (.slice o2 R c2) bsi:=yW zt zi k9;have q20:=q2.below hbl;have hB3:=nx hB2 hbl;have br:=br.below hbl;have bx1:=bx1.below hbl;have q5:=q5.below hbl;have q23:Blk w3 bw tHW #[.slice so R sc,.slice o1 R c1,Av]:=by rw[hst];simpa using q20.set_ 1 (.slice o1 R c1)
 have ho3:zX (fun b=>b=bw) w0 w3:=by rw[hst];exact⟨zO (Below.refl _ _) (Nat.zero_le _) _ _,q20.lext dE _ _,fun b _ hb=>zU _ _ _ _ _ hb⟩
 have hB3:Below w.heap.size w w3:=by rw[hst];exact zO hB3 oM _ _
 have wA:=hWA.keepZ ho3 (by rintro b hb rfl;exact hWA.nzb q20 dE dE hb);have wT:=wt.keepZ ho3 (by rintro b hb rfl;exact wt.nzb q20 dE dE hb);have wI:=wi.keepZ ho3 (by rintro b hb rfl;exact wi.nzb q20 dE dE hb);have br:=ho3.blk br oM;have bx1:=ho3.blk bx1 oM;have q5:=ho3.blk q5 hnbw;have hs3:w1.heap.size<=w3.heap.size:=by have:=hbl.size;have:=ho3.bel.size;omega
 have WA:=xgv wA;have WT:=xgv wT;have WI:=xgv wI;have ZT:=xgv (fun b (hb:Zn (.slice o1 R c1) bst b)=>Nat.le_trans k1 (zt b hb).1);have ZI:=xgv (fun b (hb:Zn (.slice o2 R c2) bsi b)=>Nat.le_trans k5 (zi b hb).1);have P1:=xgv p1;have P2:=xgv p2;have P3:=xgv p3;clear hX g1 g2 k1 k2 k3 k4 k5 k6 k7 k8 k9 a1 a2 a3 a4 z17 z18 z19 z22 z25 z26 e21 hWA wt zt wi zi wA wT wI p1 p2 p3 q20 ho3 hst hbl HWS LWS n1 q2 bot top;simp only[List.foldl_cons,List.foldl_nil,xgh,xgi,xgj,ptr]at hT;subst hT;simp only[xgl,xgk];obtain⟨g1,g2,g3,g4,g5,g6⟩:=q23.three;go_upto_region 5 with(fail)
 refine zB ?_;intro W4 hW4;have ho4:zX (fun b=>b=bw) w3 W4:=by rw[hW4.out];exact⟨zO (Below.refl _ _) (Nat.zero_le _) _ _,q23.lext dE _ _,fun b _ hb=>zU _ _ _ _ _ hb⟩
 have hB4:Below w.heap.size w W4:=by rw[hW4.out];exact zO hB3 oM _ _
 have q24:Blk W4 bw tHW #[.slice so R sc,.slice o1 R c1,.slice o2 R c2]:=by rw[hW4.out];simpa using q23.set_ 2 (.slice o2 R c2)
 have wA:=WA.out.keepZ ho4 (by rintro b hb rfl;exact WA.out.nzb q23 dE dE hb);have wT:=WT.out.keepZ ho4 (by rintro b hb rfl;exact WT.out.nzb q23 dE dE hb);have wI:=WI.out.keepZ ho4 (by rintro b hb rfl;exact WI.out.nzb q23 dE dE hb);have br:=ho4.blk br oM;have bx1:=ho4.blk bx1 oM;have q5:=ho4.blk q5 hnbw;have hs4:w1.heap.size<=W4.heap.size:=by have:=ho4.bel.size;omega
 have hband:zD4 W4 (.slice so R sc) (.slice o1 R c1) (.slice o2 R c2) R C R bss bst bsi (ent M) idf idf:=⟨wA,wT,wI,P1.out.far,P2.out.far,P3.out.far,P1.out.own,P2.out.own,P3.out.own⟩;obtain⟨Z,hZ⟩:∃Z:Nat->Prop,Z=fun b=>b∈bss∨b∈bst∨b∈bsi:=⟨_,rfl⟩
 have hrun:zAx true Z W4 bw (.slice so R sc) R C R ⟨ent M,idf,idf⟩:=⟨_,_,bss,bst,bsi,q24,hband,fun b hb=>by rw[hZ];exact hb⟩;have hzl:∀b,Z b->b<W4.heap.size:=fun b hb=>by
  rw[hZ]at hb;rcases hb with hb|hb|hb
  ·exact wA.zlt (.inl hb)
  ·exact wT.zlt (.inl hb)
  ·exact wI.zlt (.inl hb)
 have hzt:∀{b:Nat} {T:TypeId} {cs:Array Value},Blk W4 b T cs->T≠tR->T≠tI->¬ Z b:=fun hb h1 h2 hz=>by
  rw[hZ]at hz;rcases hz with hz|hz|hz
  ·exact wA.nzb hb h1 h2 (.inl hz)
  ·exact wT.nzb hb h1 h2 (.inl hz)
  ·exact wI.nzb hb h1 h2 (.inl hz)
 have hgz:∀g,(Value.slice so R sc).ownBlock=some g->¬ Z g:=fun g hg hz=>by
  rw[hZ]at hz;rcases hz with hz|hz|hz
  ·exact wA.rown wA hz hg
  ·exact wT.rown wA hz hg
  ·exact wI.rown wA hz hg
 have hlo:∀b,Zn (.slice so R sc) bss b∨Zn (.slice o1 R c1) bst b∨Zn (.slice o2 R c2) bsi b->b<W4.heap.size:=fun b hb=>by
  rcases hb with hb|hb|hb
  ·exact wA.zlt hb
  ·exact wT.zlt hb
  ·exact wI.zlt hb
 have hzw:∀b,Z b->w.heap.size<=b:=fun b hb=>by
  rw[hZ]at hb;rcases hb with hb|hb|hb
  ·have:=hzs b (.inl hb);omega
  ·have:=ZT.out b (.inl hb);omega
  ·have:=ZI.out b (.inl hb);omega
 have nz5:=hzt q5 dE dE;have nzb:=hzt q24 dE dE;have nzr:=hzt br dE dE;have nz1:=hzt bx1 dE dE;clear hzt hZ g1 g2 g3 g4 g5 g6 hW4 ho4 WA WT WI P1 P2 P3 hband wA wT wI;go_wp2_with fail
 refine(zMg hB HE.out hrun HJ.out hR hC hR hzl hgz).mono ?_;rintro e w5 ⟨pv,y,Lp,rfl,hO,hz,hJ,hP⟩;obtain⟨hokx,hL⟩:=HE.out.ok R y Lp hJ;obtain⟨po,pcap,rfl,-,-,-⟩:=hP.at_;unfold zAx at hz;rw[if_pos rfl]at hz;obtain⟨Au',Av',bsh,bsu,bsv,r1,r2,r3⟩:=hz;have q25:=hO.blk q24 nzb;obtain⟨rfl,rfl⟩: .slice o1 R c1=Au'/\.slice o2 R c2=Av':=by
  have e1:w5.heap[bw]?=some (.cells #[.slice so R sc,.slice o1 R c1,.slice o2 R c2] tHW (0,0)):=q25;have e2:w5.heap[bw]?=some (.cells #[.slice so R sc,Au',Av'] tHW (0,0)):=r1;rw[e1]at e2;injection e2 with e2
  injection e2 with e2
  simp only[Array.mk.injEq,List.cons.injEq,true_and,and_true]at e2;exact e2
 have hlA:∀b,Zn (.slice so R sc) bsh b->¬ (W4.heap.size<=b):=fun b hb=>by
  rcases hb with hb|hb
  ·have:=hzl b (r3 b (.inl hb));omega
  ·have:=hlo b (.inl (.inr hb));omega
 have hlU:∀b,Zn (.slice o1 R c1) bsu b->¬ (W4.heap.size<=b):=fun b hb=>by
  rcases hb with hb|hb
  ·have:=hzl b (r3 b (.inr (.inl hb)));omega
  ·have:=hlo b (.inr (.inl (.inr hb)));omega
 have hlV:∀b,Zn (.slice o2 R c2) bsv b->¬ (W4.heap.size<=b):=fun b hb=>by
  rcases hb with hb|hb
  ·have:=hzl b (r3 b (.inr (.inr hb)));omega
  ·have:=hlo b (.inr (.inr (.inr hb)));omega
 have hB5:Below w.heap.size w w5:=zFE hB4 (hO.mono (Z':=fun k=>w.heap.size<=k) (fun k _ hk=>hzw k hk)) (xgf _) hB4.size;have lbx:=bx1.lt;have lbr:=br.lt;have br:=hO.blk br nzr;have lbn:=q5.lt;have bx1:=hO.blk bx1 nz1;have q5:=hO.blk q5 nz5;have l24:=q24.lt;have l45:=hO.bel.size;have HL:=xgv hL;have HOX:=xgv hokx;have HJY:=xgv hJ;have hlenO:=zM8 hL (HEND.out y Lp hJ);have HLT:=xgv (zGG hL);have HND:=xgv (zDf hL);have hLl:=hL.len;go_upto_region 6 with(fail)
 refine zB ?_;intro W6 hW6;obtain⟨hB6',T5,hs6⟩:=zK hW6;have hB6:=nx hB5 hB6';have HA:=xgv (r2.s.below hB6');have HU:=xgv (r2.t.below hB6');have HW:=xgv (r2.i.below hB6');have HP:=xgv (hP.below hB6');have q25:=q25.below hB6';have br:=br.below hB6';have bx1:=bx1.below hB6';have q5:=q5.below hB6';obtain⟨g1,g2,g3,g4,g5,g6⟩:=q25.three;have hs56:=hB6'.size;have hnd:=HND.out;clear hW6 hP hL hokx hJ r1 r2 hB6' hlo hzw hrun hzl hgz hnd;go_wp2;go_loopw [36] (fun iv wr=>∃(k:Nat) (v:Value),iv= .int .i64 k/\k<=R/\Blk wr w5.heap.size 52 #[v]/\qE (zBd wr W4.heap.size v (Lp.map (·.1)++(List.range k).filter fun i=>decide (lead C y.s i<0)))/\Below W4.heap.size W6 wr/\yI W6 wr) (fun iv _=>R-(intOf iv).toNat)
 case atStart=>exact⟨0,_,rfl,by omega,T5,⟨by simpa using HP.out⟩,Below.refl _ _,yI.refl _⟩
 case round=>
  clear T5 HP;obtain⟨k,uv,rfl,hk,T5,HV,hb,hx⟩:=hrel;obtain⟨uo,ucap,rfl,-,-,-⟩:=HV.out.at_;obtain⟨un,hun⟩:∃un,(Lp.map (·.1)++(List.range k).filter fun i=>decide (lead C y.s i<0)).length=un:=⟨_,rfl⟩;rw[hun]at T5 HV;have hoB:=zX.ofB hb hx;have hwr:=HA.out.keepZ hoB hlA;have hsz:=hb.size;by_cases hlt:k<R
  ·obtain⟨g,bi,eg,lg,hbi,-,o1',-⟩:=zT.at_ hwr (i:=k) (by rw[hwr.len];exact hlt)
   subst eg;have hrow:=hwr.rowAt hlt hbi;have hVec:=hrow.vec (zD _ _) (xgf _) oM;clear hwr;go_wp2_with fail
   refine(zBI _ _ _ hVec).mono ?_;rintro e w7 ⟨rfl,hb7⟩;rw[zF7];obtain⟨c0,hc0⟩:∃c0,lead C y.s k=c0:=⟨_,rfl⟩;rw[hc0];have T7:=T5.below hb7;have HV7:=xgv (HV.out.below hb7);have hbn7:Below W4.heap.size W6 w7:=hb.trans (hb7.mono oM);have hxn7:=hx.trans (lx hb7);have hs7:=hb7.size;by_cases hneg:c0<0
   ·have hst:(List.range (k+1)).filter (fun i=>decide (lead C y.s i<0))=(List.range k).filter (fun i=>decide (lead C y.s i<0))++ [k]:=by rw[zIx,if_pos (by rw[hc0];exact hneg)]
    have HST:=xgv hst;obtain⟨t1,t2⟩:w7.cell? ⟨w5.heap.size,0,none⟩=some (.slice uo un ucap)/\w7.frozen? ⟨w5.heap.size,0,none⟩=false:=⟨T7.cell 0,T7.frozen 0⟩;have hys:∀w':World,zA1 (w'.alloc (.cells #[.int .i64 k] tNn)) (some ⟨w'.heap.size,0,none⟩) [k]:=fun w'=>⟨by simp;omega,fun _=>⟨_,0,_,rfl,heap_alloc_new w' _,fun k x hk=>by
     match k with
     |0=>simp at hk;subst hk;rfl
     |k+1=>simp at hk⟩⟩
    have hfl:((List.range k).filter fun i=>decide (lead C y.s i<0)).length<=k:=by
     have:=List.length_filter_le (fun i=>decide (lead C y.s i<0)) (List.range k);simpa using this
    have l7:=T7.lt;clear hc0 hst hVec hrow o1';go_wp2_with (at_builtin;refine zQE rfl _ _ rfl W4.heap.size (.slice uo un ucap) _ rfl (HV7.out.alloc _) (some ⟨w7.heap.size,0,none⟩) 1 1 [k] rfl (hys w7) rfl (by simp only[List.length_append,List.length_map];omega) (by simp;omega) ?_;intro v' w' hown hgr;obtain⟨vo,vn,vcap,rfl⟩:∃a b c,v'= .slice a b c:=(by obtain⟨p,q,r,-,-,-⟩:=hown.at_;exact⟨_,_,_,r⟩);have T8:Blk w' w5.heap.size 52 #[.slice uo un ucap]:=(hgr.block _ (T7.alloc _).lt (fun e=>HV7.out.ne T7 dE e.symm)).trans (T7.alloc _);obtain⟨t3,t4⟩:w'.cell? ⟨w5.heap.size,0,none⟩=some (.slice uo un ucap)/\w'.frozen? ⟨w5.heap.size,0,none⟩=false:=⟨T8.cell 0,T8.frozen 0⟩)
    have hgr:World.grownBy (w7.alloc (.cells #[.int .i64 k] tNn)) w' (Value.ownBlock (.slice uo un ucap)):=hgr;have T8:Blk w' w5.heap.size 52 #[.slice uo un ucap]:=T8;have hx8:yI w7 w':=(lx ((Below.refl _ _).alloc (xgf _) _)).trans (zAO (HV7.out.alloc _).2 dE hgr);have hb8:Below W4.heap.size W6 w':=(hbn7.alloc oM _).grown hgr (by simp;omega) (fun g hg=>(HV7.out.own g hg).1);go_roundw
    case rel=>
     refine⟨k+1,_,by simp,by omega,by simpa using T8.set_ 0 _,⟨?_⟩,zO hb8 oM _ _,(hxn7.trans hx8).trans (T8.lext dE _ _)⟩;rw[HST.out,<-List.append_assoc];exact hown.far T8 dE 0 _
    case measure=>simp[intOf];omega
   ·have hst:(List.range (k+1)).filter (fun i=>decide (lead C y.s i<0))=(List.range k).filter (fun i=>decide (lead C y.s i<0)):=by rw[zIx,if_neg (by rw[hc0];exact hneg),List.append_nil]
    have HST:=xgv hst;clear hc0 hst hVec hrow o1';go_wp2;go_roundw
    case rel=>exact⟨k+1,_,by simp,by omega,T7,⟨by rw[HST.out];exact HV7.out⟩,hbn7,hxn7⟩
    case measure=>simp[intOf];omega
  ·obtain rfl:R=k:=by omega
   have hos:zGW R C y.s Lp=Lp.map (·.1)++(List.range R).filter fun i=>decide (lead C y.s i<0):=rfl
   rw[<-hos]at HV hun;obtain⟨os,hose⟩:∃os,zGW R C y.s Lp=os:=⟨_,rfl⟩;rw[hose]at HV hun HLT HND hlenO;have HOSE:=xgv hose;have HWR:=xgv hwr;have HUR:=xgv (HU.out.keepZ hoB hlU);have HVR:=xgv (HW.out.keepZ hoB hlV);have q25:=q25.belowB hb l24;have q5:=q5.belowB hb lbn;have bx1:=bx1.belowB hb lbx;have br:=br.belowB hb lbr;have hBr:Below w.heap.size w wr:=zFE hB6 ((zX.ofB hb hx).mono (Z':=fun k=>w.heap.size<=k) (fun k _ hk=>by omega)) (xgf _) hB6.size;have n1:=q5.cell 0;obtain⟨k1,k2,k3,-,-,-⟩:=bx1.three;have hl1:=zBj R C (os.map fun i=>zM C (y.s i));have hl2:=zBj R R (os.map fun i=>zM R (y.t i));have hl3:=zBj R R (os.map fun i=>zM R (y.i i));have hl4:=zBj R R (zY R R fun a b=>y.i (os.getD b 0) a);have hl5:=zGx R C (os.map fun i=>zM C (y.s i)) (os.map fun i=>zM R (y.t i)) (zY R R fun a b=>y.i (os.getD b 0) a);obtain⟨g1,g2,g3,-,-,-⟩:=q25.three;clear hos hose hwr hoB hlA hlU hlV HA HU HW hb hx g4 g5 g6;go_upto_region 13 with(fail)
   refine zC 24 rfl (RV wr _ [E 0 50 (.func (.func 154) #[] #[.pointer (some ⟨bn,0,none⟩),.pointer (some ⟨w5.heap.size,0,none⟩)]),VP 1 51 bw 0,VP 2 52 bw 0,VP 3 53 bw 0,E 4 54 (.slice so R sc),VP 5 55 w.heap.size 1,VN 6 56 C,⟨7,57,zNj R C (os.map fun i=>zM C (y.s i))⟩,E 8 58 (.func (.func 154) #[] #[.pointer (some ⟨bn,0,none⟩),.pointer (some ⟨w5.heap.size,0,none⟩)]),VP 9 59 bw 0,VP 10 60 bw 0,VP 11 61 bw 1,E 12 62 (.slice o1 R c1),VN 13 63 R,⟨14,64,zNj R R (os.map fun i=>zM R (y.t i))⟩,E 15 65 (.func (.func 154) #[] #[.pointer (some ⟨bn,0,none⟩),.pointer (some ⟨w5.heap.size,0,none⟩)]),VP 16 66 bw 0,VP 17 67 bw 0,VP 18 68 bw 2,E 19 69 (.slice o2 R c2),VN 20 70 R,⟨21,71,zNj R R (os.map fun i=>zM R (y.i i))⟩,⟨22,72,zNj R R (zY R R fun a b=>y.i (os.getD b 0) a)⟩,⟨23,73,zN1 R C (os.map fun i=>zM C (y.s i)) (os.map fun i=>zM R (y.t i)) (zY R R fun a b=>y.i (os.getD b 0) a)⟩]) kR RV.start (RV.fin kR ?fin2) ?steps2
   case steps2=>
    (repeat' constructor)<;>(intro L T wS hL hd hcl hI K hK;try refine zA rfl ?_)
    ·exact xgs (hI.k 8 rfl kR)
    ·exact xgs (hI.k 4 rfl kR)
    ·exact xgs (hI.e mm1 (hd 1))
    ·exact xgs (hI.e mm2 (hd 2))
    ·have zt3:=hI.e mm3 (hd 3)
     have cc0:=hI.cell g1;exact xgu
    ·exact xgs (hI.k 1 rfl kR)
    ·have zt5:=hI.e mm5 (hd 5)
     have cc0:=hI.cell k2;exact xgu
    ·have zt0:=hI.e mm0 (hd 0)
     have zt4:=hI.e mm4 (hd 4);have zt6:=hI.e mm6 (hd 6);go_simp;refine(zCn _ _ R C bn _ _ bsh _ _ _ (HWR.out.below hI.bel) (q5.below hI.bel) (T5.below hI.bel) (HV.out.below hI.bel) HLT.out HND.out hR hC hlenO).mono ?_;rintro e wa ⟨v,rfl,hv,hba⟩;exact hK _ _ ((hI.world hba).y mm7 hv)
    ·exact xgs (hI.k 8 rfl kR)
    ·exact xgs (hI.k 4 rfl kR)
    ·exact xgs (hI.e mm9 (hd 9))
    ·exact xgs (hI.e zAB (hd 10))
    ·have zt11:=hI.e zAG (hd 11)
     have cc0:=hI.cell g2;exact xgu
    ·have zt:=hI.k 3 rfl kR
     have cc0:=hI.cell n1;exact xgu
    ·have zt8:=hI.e mm8 (hd 8)
     have zt12:=hI.e zAs (hd 12);have zt13:=hI.e zCS (hd 13);go_simp;refine(zCn _ _ R R bn _ _ bsu _ _ _ (HUR.out.below hI.bel) (q5.below hI.bel) (T5.below hI.bel) (HV.out.below hI.bel) HLT.out HND.out hR hR hlenO).mono ?_;rintro e wa ⟨v,rfl,hv,hba⟩;exact hK _ _ ((hI.world hba).y zBq hv)
    ·exact xgs (hI.k 8 rfl kR)
    ·exact xgs (hI.k 4 rfl kR)
    ·exact xgs (hI.e zDy (hd 16))
    ·exact xgs (hI.e zEy (hd 17))
    ·have zt18:=hI.e zCl (hd 18)
     have cc0:=hI.cell g3;exact xgu
    ·have zt:=hI.k 3 rfl kR
     have cc0:=hI.cell n1;exact xgu
    ·have zt15:=hI.e zCV (hd 15)
     have zt19:=hI.e zE5 (hd 19);have zt20:=hI.e zEz (hd 20);go_simp;refine(zCn _ _ R R bn _ _ bsv _ _ _ (HVR.out.below hI.bel) (q5.below hI.bel) (T5.below hI.bel) (HV.out.below hI.bel) HLT.out HND.out hR hR hlenO).mono ?_;rintro e wa ⟨v,rfl,hv,hba⟩;exact hK _ _ ((hI.world hba).y zE0 hv)
    ·obtain⟨v21,zt21,h21⟩:=hI.v zE0 (hd 21)
     go_simp;refine(zJ2 hB.bsm h21 hlenO HLT.out HOX.out.2.2 hR).mono ?_;rintro e wa ⟨v,rfl,hv,hba⟩;exact hK _ _ ((hI.world hba).y zFa hv)
    ·obtain⟨_,zt7,xo,xc,rfl,h7⟩:=hI.v mm7 (hd 7)
     obtain⟨_,zt14,yo,yc,rfl,h14⟩:=hI.v zBq (hd 14);obtain⟨_,zt22,zo,zc,rfl,h22⟩:=hI.v zFa (hd 22);go_simp;exact hK _ _ (hI.y zFb ⟨xo,xc,yo,yc,zo,zc,rfl,h7,h14,h22⟩)
   intro w9 hbw9 T hT;simp only[Fin,E,EI,VP,VSl,VN,xgg,xgh,xgi,xgj]at hT;obtain⟨vd7,hd7,vd14,hd14,vd21,hd21,vd22,hd22,vd23,hd23,rfl⟩:=hT;simp only[xgl,xgk];obtain⟨xo,xc,yo,yc,zo,zc,rfl,h7,h14,h22⟩:zN1 R C (os.map fun i=>zM C (y.s i)) (os.map fun i=>zM R (y.t i)) (zY R R fun a b=>y.i (os.getD b 0) a) w9 vd23:=hd23;have br:=br.below hbw9;have hB9:=nx hBr hbw9;have H7:=xgv h7;have H14:=xgv h14;have H22:=xgv h22;obtain⟨⟨r0,r1,r2,r3,r4,r5,r6,r7,r8⟩,⟨f0,f1,f2,f3,f4,f5,f6,f7,f8⟩⟩:=br.all9;clear h7 h14 h22 hd7 hd14 hd21 hd22 g1 g2 g3 n1 k1 k2 k3;go_wp2;have hxr:=br.lext9 dE (.int .i64 R) (.int .i64 C) (.slice xo R xc) (.int .i64 R) (.int .i64 R) (.slice yo R yc) (.int .i64 R) (.int .i64 R) (.slice zo R zc);have offr:∀{v:Value} {M:List (List Int)},jA w9 v M->jA _ v M:=fun h=>h.off br dE dE (fun b hb=>zNP w9 (w.heap.size+1) b _ _ _ _ _ _ _ _ _ hb) hxr
   refine bodyPost_ret (results_cell_row rfl _ _ (w.heap.size+1) _ _ _ _ rfl (br.put9 _ _ _ _ _ _ _ _ _) Tryz.underlying132 rfl (by rw[Tryz.sizeHe];rfl)) rfl ⟨_,y,Lp,rfl,HJY.out,by rw[HOSE.out];exact hlenO,by rw[HOSE.out];exact⟨_,_,_,rfl,offr H7.out,offr H14.out,offr H22.out⟩,zPO hB9 oM _ _ _ _ _ _ _ _ _⟩
theorem zMT{r:Nat}{x:Nat->Int}(h:∃t,t<r/\x t≠0):∃t,t<r/\x t≠0/\∀s,s<t->x s=0:=by
 obtain⟨t,ht⟩:=h;induction t using Nat.strongRecOn with
 | ind t ih=>
  by_cases he:∃s,s<t/\x s≠0
  ·obtain⟨s,h1,h2⟩:=he
   exact ih s h1 ⟨by omega,h2⟩
  ·exact⟨t,ht.1,ht.2,fun s hs=>Classical.byContradiction fun hn=>he ⟨s,hs,hn⟩⟩
theorem zOA{C r:Nat}{c:Nat->Nat}{H:Nat->Nat->Int}{x:Nat->Int}(hE:Ech C r c H){t:Nat}(ht:t<r)(hx:∀s,s<t->x s=0):(qF r fun s=>x s*H s (c t))=x t*H t (c t):=
 zAI ht fun s hs hne=>by
  rcases Nat.lt_or_ge s t with h|h
  ·rw[hx s h,Int.zero_mul]
  ·rw[hE.zero s hs _ (hE.inc t s oM hs),Int.mul_zero]
def zPM(n C:Nat)(H G:Nat->Nat->Int):Prop:=∃X:Nat->Nat->Int,∀a,a<n->∀b,b<C->G a b=qF n fun t=>X a t*H t b
theorem zHk{k R:Nat}{F:Nat->Nat->Int}{i:Nat}{c:Nat->Int}{v:Nat->Nat->Int}(h:i<k):
  det k (zAr F i fun a=>qF R fun t=>c t*v a t)=qF R fun t=>c t*det k (zAr F i fun a=>v a t):=by
 have:=zEZ (k:=k) (R:=R) (F:=trp F) (i:=i) (c:=c) (v:=fun t a=>v a t) h;rw[<-zBO]at this;refine this.trans (zS fun t ht=>?_);rw[<-zBO];rfl
theorem zOB(k:Nat):det k idf=1:=by
 rw[zCy (fun a _ b _ h=>by unfold idf;rw[if_neg oM])];induction k with
 |zero=>rfl
 |succ k ih=>unfold jF;rw[ih];simp[idf]
theorem zOO{k:Nat}(hk:k<=4):zHo k<=24:=by
 have:∀k,k<=4->zHo k<=24:=by decide
 exact this k hk
theorem zPP{k h:Nat}{F:Nat->Nat->Int}(hk:k<=4)(h1:1<=h)(hF:∀a,a<k->∀b,b<k->(F a b).natAbs<=h):(det k F).natAbs<=24*h^4:=
 Nat.le_trans (zJP hF) (Nat.mul_le_mul (zOO hk) (zOY h1 hk))
theorem zMM{r R:Nat}{P V:Nat->Nat->Int}(h:∀a,a<r->∀b,b<r->qF R (fun t=>P a t*V t b)=idf a b):∃σ:Nat->Nat,(∀a,a<r->σ a<R)/\det r (fun a b=>V (σ a) b)≠0:=by
 refine Classical.byContradiction fun hn=>?_
 have h1:(0:Int)∣det r fun a b=>qF R fun t=>P a t*V t b:=zBy fun σ hσ=>by
  have:det r (fun a b=>V (σ a) b)=0:=Classical.byContradiction fun h0=>hn ⟨σ,hσ,h0⟩
  rw[this];exact Int.dvd_refl 0
 rw[zA4 (G:=idf) h,zOB]at h1;have:=Int.zero_dvd.1 h1;omega
theorem zJU{R C r h:Nat}{c σ:Nat->Nat}{A H X:Nat->Nat->Int}(hr4:r<=4)(h1:1<=h)(hE:Ech C r c H)(hred:zHe (fun _ _=>True) r c H)(hA:leM h R C A)(hback2:∀a,a<R->∀b,b<C->A a b=qF r fun t=>X t a*H t b)
  (hσ:∀a,a<r->σ a<R) (hdet:det r (fun a b=>X b (σ a))≠0):leM (24*(8*h)^4) r C H:=by
 have hpivz:∀j,j<r->∀t,j<t->t<r->H t (c j)=0:=fun j hj t h2 h3=>hE.zero t h3 _ (hE.inc j t h2 h3)
 have hV:∀j,j<r->∀a,a<R->(X j a).natAbs<=h*2^j:=by
  intro j;induction j using Nat.strongRecOn with
  | ind j ih=>
   intro hj a ha;have e:=hback2 a ha (c j) (hE.lt j hj);have hp:=hE.pos j hj;rw[zEH (n:=j+1) oM (fun t h2 h3=>by rw[hpivz j hj t oM h3,Int.mul_zero])]at e;have hs:qF (j+1) (fun t=>X t a*H t (c j))=qF j (fun t=>X t a*H t (c j))+X j a*H j (c j):=rfl;rw[hs]at e;obtain⟨p,hpp⟩:∃p:Nat,H j (c j)=(p:Int):=⟨(H j (c j)).toNat,by omega⟩;have hsum:∀m,m<=j->(qF m (fun t=>X t a*H t (c j))).natAbs<=(h*2^m-h)*p:=by
    intro m;induction m with
    |zero=>intro _;simp[qF]
    | succ m ihm=>
     intro hm;have g1:=ihm oM;have g2:=ih m oM oM a ha;have g3:=hred m j oM hj trivial;have g4:(H m (c j)).natAbs<=p:=by omega
     have g5:(X m a*H m (c j)).natAbs<=h*2^m*p:=by rw[Int.natAbs_mul];exact Nat.mul_le_mul g2 g4
     have g6:(qF (m+1) (fun t=>X t a*H t (c j))).natAbs<=(qF m (fun t=>X t a*H t (c j))).natAbs+(X m a*H m (c j)).natAbs:=by
      show(qF m (fun t=>X t a*H t (c j))+X m a*H m (c j)).natAbs<=_;omega
     have g7:(h*2^m-h)*p+h*2^m*p=(h*2^(m+1)-h)*p:=by
      rw[<-Nat.add_mul];congr 1;have:h<=h*2^m:=Nat.le_mul_of_pos_right _ (Nat.pow_pos oM);rw[Nat.pow_succ,<-Nat.mul_assoc];omega
     omega
   have g1:=hsum j (xgf _);have g2:=hA a ha (c j) (hE.lt j hj);have g3:(X j a*H j (c j)).natAbs<=h+(h*2^j-h)*p:=by omega
   rw[Int.natAbs_mul,hpp,Int.natAbs_natCast]at g3;have g4:h<=h*p:=Nat.le_mul_of_pos_right _ oM;have g5:h*p+(h*2^j-h)*p=h*2^j*p:=by
    rw[<-Nat.add_mul];congr 1;have:h<=h*2^j:=Nat.le_mul_of_pos_right _ (Nat.pow_pos oM);omega
   have g6:(X j a).natAbs*p<=h*2^j*p:=by omega
   exact Nat.le_of_mul_le_mul_right g6 oM
 have hV8:∀j,j<r->∀a,a<R->(X j a).natAbs<=8*h:=fun j hj a ha=>by
  have g1:=hV j hj a ha;have g2:2^j<=2^3:=Nat.pow_le_pow_right oM oM;have g3:h*2^j<=h*2^3:=Nat.mul_le_mul_left _ g2;omega
 intro i hir b hb;have e1:det r (zAr (fun a b=>X b (σ a)) i fun a=>A (σ a) b)=H i b*det r (fun a b=>X b (σ a)):=by
  have e2:det r (zAr (fun a b=>X b (σ a)) i fun a=>A (σ a) b)=det r (zAr (fun a b=>X b (σ a)) i fun a=>qF r fun t=>H t b*X t (σ a)):=zA4 fun a ha b' hb'=>by
   unfold zAr;split
   ·dsimp only
    rw[hback2 _ (hσ a ha) b hb];exact zS fun t ht=>Int.mul_comm _ _
   ·rfl
  rw[e2,zHk (v:=fun a t=>X t (σ a)) hir,zAI (c:=i) hir]
  ·rw[zEr (fun a b=>X b (σ a)) i]
  ·intro t ht hne
   have:det r (zAr (fun a b=>X b (σ a)) i fun a=>X t (σ a))=0:=by
    rcases Nat.lt_or_ge t i with h2|h2
    ·exact zDO h2 hir fun a=>by unfold zAr;rw[if_pos rfl,if_neg oM]
    ·exact zDO (c:=i) (d:=t) oM ht fun a=>by unfold zAr;rw[if_pos rfl,if_neg oM]
   rw[this,Int.mul_zero]
 have e3:(det r (zAr (fun a b=>X b (σ a)) i fun a=>A (σ a) b)).natAbs<=24*(8*h)^4:=zPP hr4 oM fun a ha b' hb'=>by
  unfold zAr;split
  ·have:=hA _ (hσ a ha) b hb
   dsimp only;omega
  ·exact hV8 b' hb' _ (hσ a ha)
 rw[e1,Int.natAbs_mul]at e3;exact Nat.le_trans (Nat.le_mul_of_pos_right _ oM) e3
theorem zKs{R C r h:Nat}{c:Nat->Nat}{A H U X:Nat->Nat->Int}(hR:R<=4)(h1:1<=h)(hH:Hnf C R r c H)(hA:leM h R C A)(hback:∀a,a<R->∀b,b<C->A a b=qF R fun t=>X t a*H t b)
  (huv:∀a,a<R->∀b,b<R->dot R U X a b=idf a b):leM (24*(8*h)^4) R C H:=by
 obtain⟨σ,hσ,hdet⟩:=zMM (r:=r) (R:=R) (P:=U) (V:=fun t b=>X b t) (fun a ha b hb=>huv a (by have:=hH.le;omega) b (by have:=hH.le;omega));have hb:=zJU (Nat.le_trans hH.le hR) h1 hH.ech hH.red hA (fun a ha b hb=>by
  rw[hback a ha b hb];exact zEH hH.le fun t h2 h3=>by rw[hH.zero t h2 h3 b hb,Int.mul_zero]) hσ hdet
 intro i hi b hb';rcases Nat.lt_or_ge i r with hir|hir
 ·exact hb i hir b hb'
 ·rw[hH.zero i hir hi b hb']
  exact Nat.zero_le _
theorem zFU{n m r r':Nat}{c σ:Nat->Nat}{F H X:Nat->Nat->Int}(hH:Hnf m n r c H)(hback:∀a,a<n->∀b,b<m->F a b=qF n fun t=>X t a*H t b)(hcol:∀a,a<n->∀b,r'<=b->b<m->H a b=0)(hr':r'<=m)
  (hσ:∀a,a<r'->σ a<n) (hdet:det r' (fun a b=>F (σ a) b)≠0):r=r'/\∀k,k<r->c k=k:=by
 have hc:∀k,k<r->c k<r':=fun k hk=>by
  rcases Nat.lt_or_ge (c k) r' with h|h
  ·exact h
  ·have h1:=hcol k (by have:=hH.le;omega) (c k) h (hH.ech.lt k hk)
   have h2:=hH.ech.pos k hk;omega
 have hck:∀k,k<r->k<=c k:=by
  intro k;induction k with
  |zero=>intro _;omega
  |succ k ih=>
   intro hk;have h1:=ih oM;have h2:=hH.ech.inc k (k+1) oM hk;omega
 have hle:r<=r':=by
  rcases Nat.eq_zero_or_pos r with h|h
  ·omega
  ·have h1:=hck (r-1) oM
   have h2:=hc (r-1) oM;omega
 have hge:r'<=r:=by
  rcases Nat.lt_or_ge r r' with h|h
  ·have h1:(0:Int)∣det r' fun a b=>qF n fun t=>X t (σ a)*H t b:=zBy (P:=fun a t=>X t (σ a)) (F:=H) fun τ hτ=>by
    refine zDx (R:=n) (F:=H) (fun τ hτ hi=>?_) τ hτ;have h2:=hi.le (r'-1) oM;rw[zBD (c:=r'-1) oM fun b hb=>hH.zero _ oM (hτ _ oM) b oM];exact Int.dvd_refl 0
   rw[zA4 (G:=fun a b=>F (σ a) b) fun a ha b hb=>(hback _ (hσ a ha) b oM).symm]at h1;exact absurd (Int.zero_dvd.1 h1) hdet
  ·exact h
 refine⟨by omega,fun k hk=>?_⟩;have hup:∀d k,k+d+1=r->c k+d<r':=by
  intro d;induction d with
  |zero=>intro k hk;exact hc k oM
  |succ d ih=>
   intro k hk;have h1:=ih (k+1) oM;have h2:=hH.ech.inc k (k+1) oM oM;omega
 have h1:=hup (r-1-k) k oM;have h2:=hck k hk;omega
theorem zKt{n m r j:Nat}{F H X:Nat->Nat->Int}(hH:Hnf m n r (fun k=>k) H)(hback:∀a,a<n->∀b,b<m->F a b=qF n fun t=>X t a*H t b)(hj:j<=r)(hlow:∀a,a<j->∀b,b<j->a<b->F a b=0):
  jF j (fun i=>H i i)∣jF j (fun i=>F i i):=by
 have hrn:=hH.le;have hrm:r<=m:=by
  rcases Nat.eq_zero_or_pos r with h|h
  ·omega
  ·have:=hH.ech.lt (r-1) oM
   omega
 rw [<-zCy hlow];have h1:jF j (fun i=>H i i)∣det j fun a b=>qF n fun t=>X t a*H t b:=zBy (P:=fun a t=>X t a) (F:=H) fun τ hτ=>by
  refine zDx (R:=n) (F:=H) (fun τ hτ hi=>?_) τ hτ;rcases Nat.eq_zero_or_pos j with hj0|hj0
  ·subst hj0;exact Int.dvd_refl _
  ·rcases Nat.lt_or_ge (τ (j-1)) j with h|h
   ·have hid:∀d,d<j->τ (j-1-d)=j-1-d:=by
     intro d hd;have h2:=hi.le (j-1-d) oM;rcases Nat.eq_zero_or_pos d with h3|h3
     ·subst h3
      have:=hi.le (j-1) oM;simp only[Nat.sub_zero]at*;omega
     ·have:∀d,d<j->τ (j-1-d)+d<=τ (j-1):=by
       intro d;induction d with
       |zero=>intro _;simp
       |succ d ihd=>
        intro hd;have g1:=ihd oM;have g2:=hi (j-1-(d+1)) oM;rw[show j-1-(d+1)+1=j-1-d by omega]at g2;omega
      have:=this d hd;omega
    rw[zA4 (G:=H) fun a ha b hb=>by
     have:=hid (j-1-a) oM;rw[show j-1-(j-1-a)=a by omega]at this;rw[this]]
    rw[zGo fun a ha b hb hab=>hH.ech.zero a oM b hab];exact Int.dvd_refl _
   ·rw[zBD (c:=j-1) oM fun b hb=>?_]
    ·exact Int.dvd_zero _
    ·rcases Nat.lt_or_ge (τ (j-1)) r with h2|h2
     ·exact hH.ech.zero _ h2 b oM
     ·exact hH.zero _ h2 (hτ _ oM) b oM
 rwa[zA4 (G:=F) fun a ha b hb=>(hback a oM b oM).symm]at h1
theorem zMf{n m r:Nat}{F H X:Nat->Nat->Int}(hH:Hnf m n r (fun k=>k) H)(hback:∀a,a<n->∀b,b<m->F a b=qF n fun t=>X t a*H t b)(hlow:∀a,a<r->∀b,b<r->a<b->F a b=0)(hp:∀i,i<r->F i i=H i i)(hrm:r<=m):
  ∀i,i<r->∀b,b<r->i<b->H i b=0:=by
 have hrn:=hH.le;have hback2:∀a,a<n->∀b,b<m->F a b=qF r fun t=>X t a*H t b:=fun a ha b hb=>by
  rw[hback a ha b hb];refine zEH hH.le fun t h2 h3=>?_
  rw[hH.zero t h2 h3 b hb,Int.mul_zero]
 intro i;induction i using Nat.strongRecOn with
 | ind i ihi=>
  intro hi;have hpi:0<H i i:=hH.ech.pos i hi;have hone:X i i=1:=by
   have e:=hback2 i oM i oM;rw[zAI (c:=i) hi (fun t ht hne=>by
    rcases Nat.lt_or_ge t i with h|h
    ·rw[ihi t h ht i hi h,Int.mul_zero]
    ·rw[hH.ech.zero t ht i (by show i<t;omega),Int.mul_zero]),hp i hi]at e
   have h2:(X i i-1)*H i i=0:=by rw[Int.sub_mul,Int.one_mul];omega
   rcases Int.mul_eq_zero.1 h2 with h|h<;>omega
  have key:∀b,b<r->i<b->H i b=0/\X b i=0:=by
   intro b;induction b using Nat.strongRecOn with
   | ind b ihb=>
    intro hb hib;have e:=hback2 i oM b oM;rw[hlow i hi b hb hib]at e;have hsplit:qF r (fun t=>X t i*H t b)=X i i*H i b+X b i*H b b:=by
     have g1:qF r (fun t=>X t i*H t b)=qF r (fun t=>(if t=i then X i i*H i b else 0)+(if t=b then X b i*H b b else 0)):=zS fun t ht=>by
      by_cases e1:t=i
      ·rw[if_pos e1,if_neg oM,e1];omega
      ·rw[if_neg e1]
       by_cases e2:t=b
       ·rw[if_pos e2,e2];omega
       ·rw[if_neg e2]
        rcases Nat.lt_or_ge t b with h|h
        ·rcases Nat.lt_or_ge t i with h3|h3
         ·rw[ihi t h3 ht b hb oM,Int.mul_zero];rfl
         ·rw[(ihb t h ht oM).2,Int.zero_mul];rfl
        ·rw[hH.ech.zero t ht b (by show b<t;omega),Int.mul_zero];rfl
     rw[g1,zAe,zAI (c:=i) hi (fun t _ hne=>if_neg hne),zAI (c:=b) hb (fun t _ hne=>if_neg hne),if_pos rfl,if_pos rfl]
    rw[hsplit,hone,Int.one_mul]at e;have hr:0<=H i b/\H i b<H b b:=hH.red i b hib hb trivial;have hX:X b i=0:=by
     rcases Int.lt_trichotomy (X b i) 0 with h|h|h
     ·have:X b i*H b b<=-1*H b b:=Int.mul_le_mul_of_nonneg_right oM oM
      omega
     ·exact h
     ·have:1*H b b<=X b i*H b b:=Int.mul_le_mul_of_nonneg_right oM oM
      omega
    rw[hX,Int.zero_mul]at e;exact⟨by omega,hX⟩
  exact fun b hb hib=>(key b hb hib).1
structure Rel(R C:Nat)(A:Nat->Nat->Int)(z:W5):Prop where
 s:∀a,a<R->∀b,b<C->z.s a b=qF R fun s=>z.u a s*qF C fun t=>A s t*z.w b t
 uv:∀a,a<R->∀b,b<R->dot R z.u z.v a b=idf a b
 vu:∀a,a<R->∀b,b<R->cod R z.v z.u a b=idf a b
 wx:∀a,a<C->∀b,b<C->dot C z.w z.x a b=idf a b
 xw:∀a,a<C->∀b,b<C->cod C z.x z.w a b=idf a b
theorem zMh(a b:Nat):idf a b=idf b a:=by unfold idf;split<;>split<;>omega
theorem zO3{n a:Nat}(ha:a<n)(f:Nat->Int):qF n (fun t=>f t*idf t a)=f a:=by
 rw[zAI (c:=a) ha]
 ·unfold idf;rw[if_pos rfl,Int.mul_one]
 ·intro t ht hne
  unfold idf;rw[if_neg hne,Int.mul_zero]
theorem zOD(n:Nat):∀a,a<n->∀b,b<n->dot n idf idf a b=idf a b:=fun a ha b hb=>by
 unfold dot;rw[zS (g:=fun t=>idf a t*idf t b) (fun t ht=>by rw[zMh b t]),zO3 hb]
structure leW(M R C Cu Cw:Nat)(z:W5):Prop where
 s:leM M R C z.s
 u:leM M R Cu z.u
 v:leM M R Cu z.v
 w:leM M C Cw z.w
 x:leM M C Cw z.x
def rnd(z:W5)(l1 l2:List Op):W5:=⟨trF (zBZ l2 (trF (zBZ l1 z.s))),zBZ l1 z.u,zLG l1 z.v,zBZ l2 z.w,zLG l2 z.x⟩
def GE(T:Nat):Nat:=(2*T)^KE
structure Low(R C r:Nat)(F:Nat->Nat->Int):Prop where
 hnf:Hnf R C r (fun k=>k) (trF F)
 row:∀a,r<=a->a<R->∀b,b<C->F a b=0
 le:r<=R
theorem zG4{n b:Nat}{l:List Op}(hl:yB n l):∀{F:Nat->Nat->Int},(∀a,a<n->F a b=0)->∀a,a<n->zBZ l F a b=0:=by
 intro F h a ha;rw[zLH hl F a ha b];exact zDH fun t ht=>by rw[h t ht,Int.mul_zero]
theorem second{R C r1:Nat}{c1:Nat->Nat}{H:Nat->Nat->Int}{l2:List Op}{r2:Nat}{c2:Nat->Nat}(hH:Hnf C R r1 c1 H)(hl:yB C l2)(h2:Hnf R C r2 c2 (zBZ l2 (trF H))):
  r2=r1/\(∀k,k<r1->c2 k=k)/\Low R C r1 (trF (zBZ l2 (trF H))):=by
 have hz:∀a,a<C->∀b,r1<=b->b<R->zBZ l2 (trF H) a b=0:=fun a ha b h3 h4=>zG4 hl (fun a' ha'=>hH.zero b h3 h4 a' ha') a ha
 have hdet:det r1 (fun a b=>trF H (c1 a) b)≠0:=by
  have e:(fun a b=>trF H (c1 a) b)=trp (fun a b=>H a (c1 b)):=rfl;rw[e,zBO,zGo fun a ha b hb hab=>hH.ech.zero a ha _ (hH.ech.inc b a hab ha)];have:=zAa (n:=r1) (f:=fun i=>H i (c1 i)) fun i hi=>hH.ech.pos i hi
  omega
 obtain⟨e1,e2⟩:=zFU h2 (fun a ha b _=>zCJ hl (trF H) a ha b) hz hH.le (fun a ha=>hH.ech.lt a ha) hdet;subst e1;refine⟨rfl,fun k hk=>e2 k hk,⟨h2.le,⟨fun k hk=>?_,fun k hk=>?_,fun k hk t ht=>?_,fun k l h3 _=>h3⟩,fun i j h3 h4 _=>?_,h2.zero⟩,fun a h3 h4 b hb=>hz b hb a h3 h4,hH.le⟩
 ·have:=h2.ech.lt k hk;rwa[e2 k hk]at this
 ·have:=h2.ech.pos k hk;rw[e2 k hk]at this;exact this
 ·exact h2.ech.zero k hk t (by rw[e2 k hk];exact ht)
 ·have:=h2.red i j h3 h4 trivial;rw[e2 j h4]at this;exact this
theorem Hnf.congr_c{C n r:Nat}{c:Nat->Nat}{F:Nat->Nat->Int}(h:Hnf C n r c F)(he:∀k,k<r->c k=k):Hnf C n r (fun k=>k) F:=
 ⟨h.le,⟨fun k hk=>by have:=h.ech.lt k hk;rwa[he k hk]at this,fun k hk=>by have:=h.ech.pos k hk;rw[he k hk]at this;exact this,fun k hk t ht=>h.ech.zero k hk t (by rw[he k hk];exact ht),fun k l h3 _=>h3⟩,
  fun i j h3 h4 _=>by have:=h.red i j h3 h4 trivial;rw[he j h4]at this;exact this,h.zero⟩
theorem first{R C r:Nat}{F:Nat->Nat->Int}{l1:List Op}{r1:Nat}{c1:Nat->Nat}(hF:Low R C r F)(hl:yB R l1)(h1:Hnf C R r1 c1 (zBZ l1 F)):
  r1=r/\Hnf C R r (fun k=>k) (zBZ l1 F)/\∀a,a<R->∀b,r<=b->b<C->zBZ l1 F a b=0:=by
 have hz:∀a,a<R->∀b,r<=b->b<C->zBZ l1 F a b=0:=fun a ha b h3 h4=>zG4 hl (fun a' ha'=>hF.hnf.zero b h3 h4 a' ha') a ha
 have hdet:det r (fun a b=>F a b)≠0:=by
  rw[zCy (F:=F) fun a ha b hb hab=>hF.hnf.ech.zero b hb a hab];have:=zAa (n:=r) (f:=fun i=>F i i) fun i hi=>hF.hnf.ech.pos i hi
  omega
 obtain⟨e1,e2⟩:=zFU (σ:=fun a=>a) h1 (fun a ha b _=>zCJ hl F a ha b) hz hF.hnf.le (fun a ha=>by have:=hF.le;omega) hdet;subst e1;exact⟨rfl,h1.congr_c e2,hz⟩
def mu(r:Nat)(F:Nat->Nat->Int):Int:=jF r fun j=>jF (j+1) fun i=>F i i
theorem zEi{n:Nat}{f g:Nat->Int}(hf:∀i,i<n->0<f i)(hg:∀i,i<n->0<g i)(hd:∀i,i<n->f i∣g i)(h:jF n f=jF n g):∀i,i<n->f i=g i:=by
 induction n with
 |zero=>intro i hi;omega
 | succ n ih=>
  unfold jF at h;have h1:=zAa (n:=n) (f:=f) fun i hi=>hf i oM
  have h2:=zAa (n:=n) (f:=g) fun i hi=>hg i oM
  have h3:=Int.le_of_dvd h2 (zG5 fun i hi=>hd i oM);have h4:=Int.le_of_dvd (hg n oM) (hd n oM);have h5:=hf n oM;have h6:jF n f=jF n g:=by
   refine Int.le_antisymm h3 ?_;refine Int.not_lt.1 fun h7=>?_
   have:jF n f*f n<jF n g*f n:=Int.mul_lt_mul_of_pos_right h7 h5;have:jF n g*f n<=jF n g*g n:=Int.mul_le_mul_of_nonneg_left h4 oM;omega
  have h7:f n=g n:=by
   rw[h6]at h;exact Int.eq_of_mul_eq_mul_left oM h
  intro i hi;by_cases e:i=n
  ·rw[e];exact h7
  ·exact ih (fun i hi=>hf i oM) (fun i hi=>hg i oM) (fun i hi=>hd i oM) h6 i oM
theorem zFx{r:Nat}{f g:Nat->Int}(hg:∀i,i<r->0<g i)(h:∀j,j<=r->jF j f=jF j g):∀i,i<r->f i=g i:=by
 intro i hi;have h1:=h i oM;have h2:=h (i+1) oM;unfold jF at h2;rw[h1]at h2;have:=zAa (n:=i) (f:=g) fun k hk=>hg k oM
 exact Int.eq_of_mul_eq_mul_left oM h2
theorem zRD{R C r h:Nat}{A:Nat->Nat->Int}{z:W5}{l1 l2:List Op}{r1:Nat}{c1:Nat->Nat}{r2:Nat}{c2:Nat->Nat}(hR:R<=4)(hF:Low R C r z.s)(h1:yB R l1)(h2:yB C l2)
  (hn1:Hnf C R r1 c1 (zBZ l1 z.s)) (hn2:Hnf R C r2 c2 (zBZ l2 (trF (zBZ l1 z.s)))):
  Low R C r (rnd z l1 l2).s/\(mu r (rnd z l1 l2).s∣mu r z.s)/\(mu r (rnd z l1 l2).s=mu r z.s->zKY R C (rnd z l1 l2).s):=by
 obtain⟨rfl,hH,hz⟩:=first hF h1 hn1
 obtain⟨rfl,e2,hL⟩:=second hH h2 hn2;have hn2':=hn2.congr_c e2;have hpF:∀i,i<r2->0<z.s i i:=fun i hi=>hF.hnf.ech.pos i hi
 have hpH:∀i,i<r2->0<zBZ l1 z.s i i:=fun i hi=>hH.ech.pos i hi
 have hpL:∀i,i<r2->0<(rnd z l1 l2).s i i:=fun i hi=>hL.hnf.ech.pos i hi
 have d1:∀j,j<=r2->jF j (fun i=>zBZ l1 z.s i i)∣jF j (fun i=>z.s i i):=fun j hj=>zKt hH (fun a ha b _=>zCJ h1 z.s a ha b) hj fun a ha b hb hab=>hF.hnf.ech.zero b oM a hab
 have d2:∀j,j<=r2->jF j (fun i=>(rnd z l1 l2).s i i)∣jF j (fun i=>zBZ l1 z.s i i):=fun j hj=>
  zKt (F:=trF (zBZ l1 z.s)) (H:=zBZ l2 (trF (zBZ l1 z.s))) hn2' (fun a ha b _=>zCJ h2 _ a ha b) hj fun a ha b hb hab=>hH.ech.zero b oM a hab
 refine⟨hL,zG5 fun j hj=>Int.dvd_trans (d2 _ oM) (d1 _ oM),fun he=>?_⟩;have g1:=zEi (fun j hj=>zAa fun i hi=>hpL i oM) (fun j hj=>zAa fun i hi=>hpF i oM) (fun j hj=>Int.dvd_trans (d2 (j+1) oM) (d1 (j+1) oM)) he;have g2:∀j,j<=r2->jF j (fun i=>zBZ l1 z.s i i)=jF j (fun i=>(rnd z l1 l2).s i i):=fun j hj=>by
  cases j with
  |zero=>rfl
  |succ j=>
   have k1:=g1 j oM;have k2:=Int.le_of_dvd (zAa fun i hi=>hpH i oM) (d2 (j+1) hj);have k3:=Int.le_of_dvd (zAa fun i hi=>hpF i oM) (d1 (j+1) hj);omega
 have g3:=zFx hpL g2;have g4:=zMf (F:=trF (zBZ l1 z.s)) hn2' (fun a ha b _=>zCJ h2 _ a ha b) (fun a ha b hb hab=>hH.ech.zero b hb a hab) g3 hF.le;intro a ha b hb hab;show zBZ l2 (trF (zBZ l1 z.s)) b a=0;rcases Nat.lt_or_ge b r2 with k1|k1
 ·rcases Nat.lt_or_ge a r2 with k2|k2
  ·rcases Nat.lt_or_ge b a with k3|k3
   ·exact g4 b k1 a k2 k3
   ·exact hn2'.ech.zero b k1 a (show a<b by omega)
  ·exact hL.row a k2 ha b hb
 ·exact hn2'.zero b k1 hb a ha
structure zBe(R C r:Nat)(c:Nat->Nat)(A H U V:Nat->Nat->Int):Prop where
 hnf:Hnf C R r c H
 mul:∀a,a<R->∀b,b<C->H a b=qF R fun t=>U a t*A t b
 inv:∀a,a<R->∀b,b<R->qF R (fun t=>U a t*V t b)=idf a b
 back:∀a,a<R->∀b,b<C->A a b=qF R fun t=>V a t*H t b
theorem zBe.bound{R C r M:Nat}{c:Nat->Nat}{A H U V:Nat->Nat->Int}(h:zBe R C r c A H U V)(hR:R<=4)(hM:1<=M)(hA:leM M R C A):leM (24*(8*M)^4) R C H:=
 zKs (U:=U) (X:=fun t a=>V a t) hR hM h.hnf hA h.back h.inv
theorem zHR{n:Nat}{σ:Nat->Nat}(f:Nat->Int)(hlt:∀k,k<n->σ k<n)(hinj:∀a b,a<n->b<n->σ a=σ b->a=b)(hsur:∀t,t<n->∃k,k<n/\σ k=t):qF n f=qF n fun k=>f (σ k):=by
 have h1:qF n f=qF n fun t=>qF n fun k=>if σ k=t then f t else 0:=zS fun t ht=>by
  obtain⟨k,hk,e⟩:=hsur t ht;rw[zAI (c:=k) hk (fun i hi hne=>if_neg fun e2=>hne (hinj i k hi hk (e2.trans e.symm))),if_pos e]
 rw[h1,zEt];refine zS fun k hk=>?_
 rw[zAI (c:=σ k) (hlt k hk) (fun i hi hne=>if_neg fun e=>hne e.symm),if_pos rfl]
theorem zM9{n C:Nat}{F:Nat->Nat->Int}{L:List (Nat × Nat)}(hz:∀a,a<n->(∀k,k<L.length->(L.getD k (0,0)).1≠a)->lead C F a<0){a:Nat}(ha:a<n):a∈zGW n C F L:=by
 by_cases hm:a∈L.map (·.1)
 ·exact List.mem_append.2 (.inl hm)
 ·refine List.mem_append.2 (.inr ?_)
  simp only[List.mem_filter,List.mem_range,decide_eq_true_eq];refine⟨ha,hz a ha fun k hk e=>hm ?_⟩;rw[<-e,xgb,xga hk];exact List.mem_map.2 ⟨_,List.getElem_mem hk,rfl⟩
def zCu(n C:Nat)(F:Nat->Nat->Int)(L:List (Nat × Nat))(a:Nat):Nat:=(zGW n C F L).getD a 0
theorem zED{n C:Nat}{F:Nat->Nat->Int}{L:List (Nat × Nat)}{k:Nat}(hk:k<L.length):zCu n C F L k=jJ L k:=by
 unfold zCu zGW jJ;rw[xgb,List.getElem?_append_left (by simpa using hk),List.getElem?_map,xga hk,xgb,xga hk];rfl
theorem zLI{n C:Nat}{F:Nat->Nat->Int}{L:List (Nat × Nat)}{k:Nat}(h1:L.length<=k)(h2:k<(zGW n C F L).length):lead C F (zCu n C F L k)<0:=by
 unfold zCu;have e:(zGW n C F L)[k]?=((List.range n).filter fun i=>decide (lead C F i<0))[k-L.length]?:=by
  unfold zGW;rw[List.getElem?_append_right (by simpa using h1)];simp
 rw[xgb,xga h2];rw[xga h2]at e;have:=xgd e.symm;simp only[List.mem_filter,decide_eq_true_eq]at this;exact this.2
theorem zMe{R C Ct M0 g:Nat}{A:Nat->Nat->Int}{y:Bst}{L:List (Nat × Nat)}(h:JC R C Ct M0 ⟨A,idf,idf⟩ R g y L)(hred:zHe (fun _ _=>True) L.length (zDK L) (vw (jJ L) y.s))(hlen:(zGW R C y.s L).length=R):
  zBe R C L.length (zDK L) A (fun a b=>y.s (zCu R C y.s L a) b) (fun a b=>y.t (zCu R C y.s L a) b) (fun a b=>y.i (zCu R C y.s L b) a):=by
 obtain⟨l,hl,hy⟩:=h.ops;rw[zLF]at hy;have hs:y.s=zBZ l A:=by rw[hy]
 have ht:y.t=zBZ l idf:=by rw[hy]
 have hi:y.i=zLG l idf:=by rw[hy]
 have hlok:=h.lok (xgf _);have hz:∀a,a<R->(∀k,k<L.length->(L.getD k (0,0)).1≠a)->lead C y.s a<0:=fun a ha hn=>by
  rw[zF9 (h.zero a ha hn)];decide
 have olt:∀a,a<R->zCu R C y.s L a<R:=fun a ha=>by
  unfold zCu;rw[xgb,xga oM];exact zGG hlok _ (List.getElem_mem _)
 have oinj:∀a b,a<R->b<R->zCu R C y.s L a=zCu R C y.s L b->a=b:=fun a b ha hb e=>by
  unfold zCu at e;rw[xgb,xga oM,xgb,xga oM]at e;exact(List.getElem_inj (h₀:=by omega) (h₁:=by omega) (zDf hlok)).1 e
 have osur:∀t,t<R->∃a,a<R/\zCu R C y.s L a=t:=fun t ht=>by
  obtain⟨a,ha,e⟩:=List.getElem_of_mem (zM9 hz ht);refine⟨a,by omega,?_⟩;unfold zCu;rw[xgb,xga ha];exact e
 refine⟨⟨Nat.le_trans h.len (xgf _),⟨h.ech.lt,fun k hk=>?_,fun k hk t ht=>?_,h.ech.inc⟩,fun i j hij hj _=>?_,fun a h1 h2 t ht=>?_⟩,fun a ha b hb=>?_,fun a ha b hb=>?_,?_⟩
 ·show 0<y.s (zCu R C y.s L k) (zDK L k)
  rw[zED hk];exact h.ech.pos k hk
 ·show y.s (zCu R C y.s L k) t=0
  rw[zED hk];exact h.ech.zero k hk t ht
 ·show 0<=y.s (zCu R C y.s L i) (zDK L j)/\y.s (zCu R C y.s L i) (zDK L j)<y.s (zCu R C y.s L j) (zDK L j)
  rw[zED oM,zED hj];exact hred i j hij hj trivial
 ·exact zF8 (zLI h1 oM) t ht
 ·show y.s (zCu R C y.s L a) b=qF R fun t=>y.t (zCu R C y.s L a) t*A t b
  rw[ht];conv=>lhs;rw[show y.s (zCu R C y.s L a) b=zBZ l A (zCu R C y.s L a) b from by rw[<-hs]]
  exact zLH hl A _ (olt a ha) b
 ·show qF R (fun t=>y.t (zCu R C y.s L a) t*y.i (zCu R C y.s L b) t)=idf a b
  rw[ht,hi];have:=zOo hl (P:=idf) (Q:=idf) (C:=R) (fun a ha b hb=>zOD R a ha b hb) _ (olt a ha) _ (olt b hb);unfold dot at this;rw[this];unfold idf;by_cases e:a=b
  ·rw[if_pos e,if_pos (by rw[e])]
  ·rw[if_neg e,if_neg (fun e2=>e (oinj a b ha hb e2))]
 ·intro a ha b hb
  show A a b=qF R fun t=>y.i (zCu R C y.s L t) a*y.s (zCu R C y.s L t) b
  rw[<-zHR (σ:=zCu R C y.s L) (fun t=>y.i t a*y.s t b) olt oinj osur,hi,hs];exact zCJ hl A a ha b
theorem zIo{os:List Nat}{n C:Nat}{F:Nat->Nat->Int}(h:os.length=n):(os.map fun i=>zM C (F i))=zY n C fun a b=>F (os.getD a 0) b:=by
 refine List.ext_getElem (by simp[zY,h]) fun i h1 h2=>?_
 simp only[List.length_map]at h1;simp only[zY,zM,List.getElem_map,List.getElem_range];rw[xgb,xga h1];rfl
theorem zPD:∃n:Nat,n=B32^zKH:=⟨_,rfl⟩
noncomputable def BD:Nat:=zPD.choose
theorem zKF:BD=B32^zKH:=zPD.choose_spec
theorem zKE:BSd BD:=⟨fun z hz=>by rw[zKF]at hz;exact⟨hz⟩⟩
theorem zNi:∃n:Nat,n=2^40:=⟨_,rfl⟩
noncomputable def E40:Nat:=zNi.choose
theorem zNh:E40=2^40:=zNi.choose_spec
theorem zEM:E40=1099511627776:=by rw[zNh]
theorem zMX(M:Nat):2*gk 40 M=(2*M)^E40:=by rw[zNh];exact zNo 40 M
theorem zPU{e M0 k:Nat}(hk:k<=40)(hM1:1<=M0)(hM:2*M0<=2^e):gk k M0<2^(e*E40):=by
 have h1:=zA6 hM1 hk;have h2:=zMX M0;have h3:(2*M0)^E40<=(2^e)^E40:=Nat.pow_le_pow_left hM _;rw[<-Nat.pow_mul]at h3;have h4:=zEd 40 hM1;omega
theorem zCK{a D:Nat}(h:a<=32*D):2^a<=B32^D:=by
 rw[show B32=2^32 from rfl,<-Nat.pow_mul];exact Nat.pow_le_pow_right oM h
theorem zQJ{e M0 k:Nat}(hk:k<=40)(hM1:1<=M0)(hM:2*M0<=2^e)(he:e<=31):gk k M0<BD:=by
 rw[zKF];refine Nat.lt_of_lt_of_le (zPU hk hM1 hM) (zCK ?_);rw[zAR];have:e*E40<=31*E40:=Nat.mul_le_mul_right _ he;rw[zEM]at this ⊢
 omega
theorem zKv(n M:Nat)(h:1<=M):leM M n n idf:=fun a _ b _=>by
 unfold idf;split<;>simp<;>omega
theorem zKr{M0 q:Nat}(hM1:1<=M0)(v:Value)(M:List (List Int))(R C:Nat)(w:World)(h:jE w v R C M)(hF:jT R C M)(hR:R<=6)(hC:C<=1000000)(hg:gk (esr q R) M0<BD)(hA:leM M0 R C (ent M))(hrk:RkB q R C ⟨ent M,idf,idf⟩):
  Calls Tryz.prog 69 #[v] w fun e w'=>∃v r c H U V,e= .returned v/\zBe R C r c (ent M) H U V/\leM (gk (esr q R) M0) R R U/\leM (gk (esr q R) M0) R R V/\zHb w' v R C (zY R C H) (zY R R U) (zY R R V)/\Below w.heap.size w w':=by
 have hB:=zKE;have hB0:leB M0 R C R ⟨ent M,idf,idf⟩:=⟨hA,zKv R M0 hM1,zKv R M0 hM1⟩;have hE:=zOH (Cs:=C) (x0:=⟨ent M,idf,idf⟩) (Ct:=R) hR hM1 hg hrk;have hMB:M0<BD:=Nat.lt_of_le_of_lt (zHr _ hM1) hg;refine(zKq hB v M R C w h hF oM hC (hA.ok hMB) (Smd.one (z:=1) dE).sm hE (zMn hB0 hM1) (fun y L hJ a ha hn=>?_)).mono ?_
 ·rw[zF9 ((JH.fin hJ).1.zero a ha hn)];decide
 ·rintro ee w' ⟨v,y,L,rfl,hJ,hl,hv,hb⟩
  obtain⟨hJ,hr⟩:=JH.fin hJ;have hbd:=hJ.bd;have olt:∀a,a<R->zCu R C y.s L a<R:=fun a ha=>by
   unfold zCu;rw[xgb,xga oM];exact zGG (hJ.lok (xgf _)) _ (List.getElem_mem _)
  refine⟨v,_,_,_,_,_,rfl,zMe hJ hr hl,fun a ha b hb=>hbd.2.1 _ (olt a ha) b hb,fun a ha b hb=>hbd.2.2 _ (olt b hb) a ha,?_,hb⟩;rw[zIo hl,zIo hl]at hv;exact hv
theorem zMd{M0:Nat}(hM1:1<=M0)(v:Value)(M:List (List Int))(R C:Nat)(w:World)(h:jE w v R C M)(hF:jT R C M)(hR:R<=6)(hC:C<=1000000)(hg:gk (es R) M0<BD)(hA:leM M0 R C (ent M)):
  Calls Tryz.prog 69 #[v] w fun e w'=>∃v r c H U V,e= .returned v/\zBe R C r c (ent M) H U V/\leM (gk (es R) M0) R R U/\leM (gk (es R) M0) R R V/\zHb w' v R C (zY R C H) (zY R R U) (zY R R V)/\Below w.heap.size w w':=
 (zKr (q:=R) hM1 v M R C w h hF hR hC (Nat.lt_of_le_of_lt (zA6 hM1 (zIg R R)) hg) hA RkB.all).mono fun e w' ⟨v,r,c,H,U,V,h1,h2,h3,h4,h5⟩=>⟨v,r,c,H,U,V,h1,h2,h3.mono (zA6 hM1 (zIg R R)),h4.mono (zA6 hM1 (zIg R R)),h5⟩
theorem zKg{R:Nat}(h:R<=4):es R<=40:=Nat.le_trans (zOL h) dE
theorem zHs{M0 e:Nat}(hM1:1<=M0)(hM0:2*M0<=2^e)(he:e<=31)(v:Value)(M:List (List Int))(R C:Nat)(w:World)(h:jE w v R C M)(hF:jT R C M)(hR:R<=4)(hC:C<=4)(hA:leM M0 R C (ent M)):
  Calls Tryz.prog 69 #[v] w fun e w'=>∃v r c H U V,e= .returned v/\zBe R C r c (ent M) H U V/\leM (24*(8*M0)^4) R C H/\leM (gk 40 M0) R R U/\leM (gk 40 M0) R R V/\zHb w' v R C (zY R C H) (zY R R U) (zY R R V)/\Below w.heap.size w w':=by
 refine(zMd hM1 v M R C w h hF oM oM (zQJ (zKg hR) hM1 hM0 he) hA).mono ?_;rintro ee w' ⟨v,r,c,H,U,V,rfl,hf,hU,hV,hv,hb⟩;have hg:=zA6 hM1 (zKg hR);exact⟨v,r,c,H,U,V,rfl,hf,hf.bound hR hM1 hA,hU.mono hg,hV.mono hg,hv,hb⟩
abbrev tMt:TypeId:=28
structure zQu(R C r:Nat)(c:Nat->Nat)(A H:Nat->Nat->Int):Prop where
 hnf:Hnf C R r c H
 sp:zPM R C H A
 sp':zPM R C A H
def zLc(C:Nat)(F:Nat->Nat->Int)(i:Nat):Prop:=
 lead C F i<0∨∃c:Nat,lead C F i=(c:Int)/\(∀k,k<i->0<=lead C F k/\lead C F k<c)/\0<F i c/\∀k,k<i->0<=F k c/\F k c<F i c
def zP5(R C:Int)(M:List (List Int)):Prop:=qX R C M/\∀i,i<M.length->zLc C.toNat (ent M) i
def zRa(P:Prop)(w:World)(e:Ending)(w':World):Prop:=∃b,e= .returned (.bool b)/\(b=true↔P)/\Below w.heap.size w w'
theorem jT.row_eq{R C:Nat}{M:List (List Int)}(h:jT R C M){i:Nat}{zs:List Int}(hz:M[i]?=some zs):zs=zM C (ent M i):=by
 have hl:=h.2 zs (xgd hz);refine List.ext_getElem (by simp[zM,hl]) fun j h1 h2=>?_
 simp only[zM,List.getElem_map,List.getElem_range];rw[zBE hz (xga h1)]
structure zQw(C:Nat)(F:Nat->Nat->Int)(i:Nat)(last:Int)(en:Bool):Prop where
 ok:∀k,k<i->zLc C F k
 ended:en=true↔∃k,k<i/\lead C F k<0
 lst:en=false->∀c:Int,0<=c->(last<c↔∀k,k<i->lead C F k<c)

structure Cpy where
 k:Nat
 s:Nat
 d:Nat
 t:Nat
def Cpy.fine(vs:List VS)(c:Cpy):Bool:=vs.any (fun a=>a.op==c.k && a.slot==c.s) && vs.any (fun a=>a.op==c.d && a.slot==c.t) && !(c.k==c.d)
theorem zKJ{vs:List VS}{k s:Nat}(h:vs.any (fun a=>a.op==k && a.slot==s)=true):∃P,(⟨k,s,P⟩:VS)∈vs:=by
 obtain⟨a,ha,e⟩:=List.any_eq_true.1 h;simp only[Bool.and_eq_true,beq_iff_eq]at e;obtain⟨rfl,rfl⟩:=e;exact⟨a.P,ha⟩
theorem Cpy.fine_all{vs:List VS}{cp:List Cpy}(h:cp.all (Cpy.fine vs)=true){c:Cpy}(hc:c∈cp):(∃P,(⟨c.k,c.s,P⟩:VS)∈vs)/\(∃P,(⟨c.d,c.t,P⟩:VS)∈vs)/\c.k≠c.d:=by
 have:=List.all_eq_true.1 h c hc;unfold Cpy.fine at this;simp only[Bool.and_eq_true]at this;exact⟨zKJ this.1.1,zKJ this.1.2,by have:=this.2;simpa using this⟩
structure RVP(ka sa kb sb:Nat)(Q:Value->Value->Prop)(cp:List Cpy)(W:World)(T0:Array Value)(vs:List VS)(L:Array Bool)(T:Array Value)(w:World):Prop where
 rv:RV W T0 vs L T w
 ma:∃P,(⟨ka,sa,P⟩:VS)∈vs
 mb:∃P,(⟨kb,sb,P⟩:VS)∈vs
 ne:ka≠kb
 mc:cp.all (Cpy.fine vs)=true
 pair:L[ka]?=some true->L[kb]?=some true->∃u v,T[sa]?=some u/\T[sb]?=some v/\Q u v
 cpy:∀c∈cp,L[c.k]?=some true->L[c.d]?=some true/\T[c.s]?=T[c.t]?
section
variable {ka sa kb sb:Nat} {Q:Value->Value->Prop} {cp:List Cpy} {W:World} {T0:Array Value} {vs:List VS} {L:Array Bool} {T:Array Value} {w w':World}
theorem RVP.start(hwf:zCc T0.size vs=true)(hv:∀s∈vs,qK s.P)(ma:∃P,(⟨ka,sa,P⟩:VS)∈vs)(mb:∃P,(⟨kb,sb,P⟩:VS)∈vs)(ne:ka≠kb)(mc:cp.all (Cpy.fine vs)=true){n:Nat}:RVP ka sa kb sb Q cp W T0 vs (Array.replicate n false) T0 W.drew:=
 have no:∀k,¬ (Array.replicate n false)[k]?=some true:=fun k h=>by
  rw[Array.getElem?_replicate]at h;split at h<;>simp at h
 ⟨RV.start hwf hv,ma,mb,ne,mc,fun h _=>absurd h (no _),fun _ _ h=>absurd h (no _)⟩
theorem RVP.world(h:RVP ka sa kb sb Q cp W T0 vs L T w)(hb:Below w.heap.size w w'):RVP ka sa kb sb Q cp W T0 vs L T w':=⟨h.rv.world hb,h.ma,h.mb,h.ne,h.mc,h.pair,h.cpy⟩
theorem RVP.cell(h:RVP ka sa kb sb Q cp W T0 vs L T w){b o:Nat}{v:Value}(hc:W.cell? ⟨b,o,none⟩=some v):w.cell? ⟨b,o,none⟩=some v:=h.rv.cell hc
theorem RVP.bel(h:RVP ka sa kb sb Q cp W T0 vs L T w):Below W.heap.size W w:=h.rv.bel
theorem RVP.size(h:RVP ka sa kb sb Q cp W T0 vs L T w):T.size=T0.size:=h.rv.size
theorem RVP.keep(h:RVP ka sa kb sb Q cp W T0 vs L T w):∀j,(∀s∈vs,s.slot≠j)->T[j]?=T0[j]?:=h.rv.keep
theorem RVP.val(h:RVP ka sa kb sb Q cp W T0 vs L T w):∀s∈vs,L[s.op]?=some true->∃v,T[s.slot]?=some v/\s.P w v:=h.rv.val
theorem RVP.value{k:Nat}{v:Value}(h:RVP ka sa kb sb Q cp W T0 vs L T w)(s:VS)(hs:s∈vs)(hk:s.op=k)(hP:s.P w v)
  (hq:∀u,(k=ka->T[sb]?=some u->L[kb]?=some true->Q v u)/\(k=kb->T[sa]?=some u->L[ka]?=some true->Q u v):=by intro u;exact⟨fun e=>absurd e dE,fun e=>absurd e dE⟩)
  (hL:L[k]?=some false:=by assumption) (hc:cp.all (fun c=>!(c.k==k))=true∨∀c∈cp,c.k=k->L[c.d]?=some true/\T[c.t]?=some v:=by first|exact .inl rfl|exact .inl dE):
  RVP ka sa kb sb Q cp W T0 vs (L.setIfInBounds k true) (T.setIfInBounds s.slot v) w:=by
 have hr:=h.rv.value s hs hk hP;subst hk;obtain⟨Pa,ma⟩:=h.ma;obtain⟨Pb,mb⟩:=h.mb;have hwf:=h.rv.wf;unfold zCc at hwf;simp only[Bool.and_eq_true,decide_eq_true_eq,List.all_eq_true]at hwf;obtain⟨⟨w1,w2⟩,w3⟩:=hwf;have hslot:s.slot<T.size:=by rw[h.rv.size];exact w3 _ (List.mem_map.2 ⟨s,hs,rfl⟩)
 have hab:sb≠sa:=fun e=>h.ne (congrArg VS.op (zN w1 ma mb e.symm))
 have hkeep:∀{j:Nat},L[j]?=some true->j≠s.op:=fun hj e=>by rw[e,hL]at hj;cases hj
 have hset:∀{j:Nat},L[j]?=some true->(L.setIfInBounds s.op true)[j]?=some true:=fun {j} hj=>by rw[xgc (Ne.symm (hkeep hj))];exact hj
 refine⟨hr,h.ma,h.mb,h.ne,h.mc,fun h1 h2=>?_,fun c hcm h1=>?_⟩
 ·by_cases e1:s.op=ka
  ·have es:s=⟨ka,sa,Pa⟩:=zN w2 hs ma e1
   have e2:s.slot=sa:=by rw[es]
   have hlb:L[kb]?=some true:=zL h2 (by rw[e1];exact h.ne);obtain⟨u,hu,-⟩:=h.rv.val _ mb hlb;exact⟨v,u,by rw[e2,Array.getElem?_setIfInBounds_self_of_lt (by rw[<-e2];exact hslot)],by rw[e2,xgc (Ne.symm hab)];exact hu,(hq u).1 e1 hu hlb⟩
  ·have hla:L[ka]?=some true:=zL h1 e1
   obtain⟨u,hu,-⟩:=h.rv.val _ ma hla;by_cases e3:s.op=kb
   ·have es:s=⟨kb,sb,Pb⟩:=zN w2 hs mb e3
    have e2:s.slot=sb:=by rw[es]
    exact⟨u,v,by rw[e2,xgc hab];exact hu,by rw[e2,Array.getElem?_setIfInBounds_self_of_lt (by rw[<-e2];exact hslot)],(hq u).2 e3 hu hla⟩
   ·obtain⟨x,y,g1,g2,g3⟩:=h.pair hla (zL h2 e3)
    have n1:s.slot≠sa:=fun e=>e1 (congrArg VS.op (zN w1 hs ma e))
    have n2:s.slot≠sb:=fun e=>e3 (congrArg VS.op (zN w1 hs mb e))
    exact⟨x,y,by rw[xgc n1];exact g1,by rw[xgc n2];exact g2,g3⟩
 ·obtain⟨⟨Pk,mk⟩,⟨Pd,md⟩,hne⟩:=Cpy.fine_all h.mc hcm
  by_cases e1:c.k=s.op
  ·rcases hc with hc|hc
   ·have:=List.all_eq_true.1 hc c hcm
    simp[e1]at this
   ·obtain⟨g1,g2⟩:=hc c hcm e1
    have es:s=⟨c.k,c.s,Pk⟩:=zN w2 hs mk e1.symm;have e2:s.slot=c.s:=by rw[es]
    have n2:s.slot≠c.t:=fun e=>hne (by rw[e1];exact congrArg VS.op (zN w1 hs md e))
    exact⟨hset g1,by rw[<-e2,Array.getElem?_setIfInBounds_self_of_lt hslot,xgc n2,g2]⟩
  ·obtain⟨g1,g2⟩:=h.cpy c hcm (zL h1 (Ne.symm e1))
   have n1:s.slot≠c.s:=fun e=>e1 (congrArg VS.op (zN w1 hs mk e)).symm
   have n2:s.slot≠c.t:=fun e=>hkeep g1 (congrArg VS.op (zN w1 hs md e)).symm
   exact⟨hset g1,by rw[xgc n1,xgc n2];exact g2⟩
theorem RVP.v{s:VS}(h:RVP ka sa kb sb Q cp W T0 vs L T w)(hs:s∈vs)(hl:L[s.op]?=some true):∃v,T[s.slot]?=some v/\s.P w v:=h.val s hs hl
theorem RVP.y{k:Nat}{v:Value}(h:RVP ka sa kb sb Q cp W T0 vs L T w){s:VS}(hs:s∈vs)(hP:s.P w v)
  (hq:∀u,(k=ka->T[sb]?=some u->L[kb]?=some true->Q v u)/\(k=kb->T[sa]?=some u->L[ka]?=some true->Q u v):=by intro u;exact⟨fun e=>absurd e dE,fun e=>absurd e dE⟩)
  (hL:L[k]?=some false:=by assumption) (hc:cp.all (fun c=>!(c.k==k))=true∨∀c∈cp,c.k=k->L[c.d]?=some true/\T[c.t]?=some v:=by first|exact .inl rfl|exact .inl dE) (hk:s.op=k:=by rfl):
  RVP ka sa kb sb Q cp W T0 vs (L.setIfInBounds k true) (T.setIfInBounds s.slot v) w:=h.value s hs hk hP hq hL hc
end
end Go.Proofs.YtnbmaipobhppcaaGreat
