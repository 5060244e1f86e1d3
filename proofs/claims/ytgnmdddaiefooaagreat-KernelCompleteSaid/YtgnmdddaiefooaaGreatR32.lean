/- hermite: reduce (the mirror) ends within bounds; what an elimination of at most four rows and columns keeps. Plain Lean. -/
import Derived.Test.YtgnmdddaiefooaaGreatR27
import Derived.Test.YtgnmdddaiefooaaGreatR31
set_option linter.unusedVariables false
set_option linter.unusedSimpArgs false
set_option linter.unusedSectionVars false
set_option maxHeartbeats 16000000
set_option maxRecDepth 100000
namespace Go.Proofs.YtgnmdddaiefooaaGreat
open Go.RowKit
def gk:Nat->Nat->Nat
 |0,M=>M
 |k+1,M=>gk k (2*M*M)
theorem zET{M:Nat}(h:1<=M):M<=2*M*M:=Nat.le_trans (show M<=2*M by omega) (Nat.le_mul_of_pos_right _ oM)
theorem zGi:∀(k:Nat) {M:Nat},1<=M->M<=gk k M
 |0,M,_=>xgf _
 |k+1,M,h=>Nat.le_trans (zET h) (zGi k (Nat.le_trans h (zET h)))
theorem zCR:∀(a b M:Nat),gk (a+b) M=gk b (gk a M)
 |0,b,M=>by rw[Nat.zero_add];rfl
 |a+1,b,M=>by
  have:a+1+b=(a+b)+1:=by omega
  rw[this];show gk (a+b) _=gk b (gk a _);exact zCR a b _
theorem zCy(k:Nat){M:Nat}(h:1<=M):1<=gk k M:=Nat.le_trans h (zGi k h)
theorem zAM{a b M:Nat}(h:1<=M)(hab:a<=b):gk a M<=gk b M:=by
 obtain⟨d,rfl⟩:=Nat.exists_eq_add_of_le hab;rw[zCR];exact zGi d (zCy a h)
theorem zKM:∀(k M:Nat),2*gk k M=(2*M)^(2^k)
 |0,M=>by simp[gk]
 |k+1,M=>by
  show 2*gk k (2*M*M)=_;rw[zKM k,Nat.pow_succ 2 k,Nat.mul_comm (2^k),Nat.pow_mul (2*M) 2];congr 1;rw[Nat.pow_two,<-Nat.mul_assoc 2 (2*M) M,Nat.mul_comm 2 (2*M),Nat.mul_assoc (2*M) 2 M]
theorem leB.mono{M M' n Cs Ct:Nat}{x:Bst}(h:leB M n Cs Ct x)(hm:M<=M'):leB M' n Cs Ct x:=⟨h.1.mono hm,h.2.1.mono hm,h.2.2.mono hm⟩
theorem leB.ok{M B n Cs Ct:Nat}{x:Bst}(h:leB M n Cs Ct x)(hm:M<B):okB B n Cs Ct x:=⟨h.1.ok hm,h.2.1.ok hm,h.2.2.ok hm⟩
theorem zD8{M q:Nat}(hM:1<=M)(hq:q<=M):M*(1+q)<=2*M*M:=by
 have h1:M*q<=M*M:=Nat.mul_le_mul_left _ hq;have h2:M*1<=M*M:=Nat.mul_le_mul_left _ hM;rw[Nat.mul_add,Nat.mul_assoc];omega
theorem zGc{a b:Int}{M:Nat}(hb:0<b)(ha:a.natAbs<=M):(a/b).natAbs<=M:=by
 rcases Int.le_total 0 a with h|h
 ·have g1:=Int.ediv_nonneg h (Int.le_of_lt hb)
  have g2:=Int.ediv_le_self b h;omega
 ·have g1:a/b<=0:=Int.ediv_nonpos_of_nonpos_of_neg h hb
  have g2:a<=a/b:=by
   rw[Int.le_ediv_iff_mul_le hb];have:a*b<=a*1:=Int.mul_le_mul_of_nonpos_left h oM;omega
  omega
def vw(ρ:Nat->Nat)(F:Nat->Nat->Int):Nat->Nat->Int:=fun a t=>F (ρ a) t
theorem zJS{B n Cs Ct r i:Nat}{ρ κ:Nat->Nat}(hρ:∀k,k<r->ρ k<n)(hinj:∀a b,a<b->b<r->ρ a≠ρ b)(hi:i<r):∀(m j:Nat) (x:Bst) (M:Nat),j+m=r->i<j->leB M n Cs Ct x->1<=M->Ech Cs r κ (vw ρ x.s)->
  (∀j',i<j'->j'<j->0<=x.s (ρ i) (κ j')/\x.s (ρ i) (κ j')<x.s (ρ j') (κ j'))->gk m M<B->
  ∃l,zEr B n Cs Ct ρ κ i m j x=some (zA0 l x)/\qJ n l/\leB (gk m M) n Cs Ct (zA0 l x)/\Ech Cs r κ (vw ρ (zA0 l x).s)/\(∀a,a≠ρ i->∀t,(zA0 l x).s a t=x.s a t)∧
   (∀j',i<j'->j'<r->0<=(zA0 l x).s (ρ i) (κ j')/\(zA0 l x).s (ρ i) (κ j')<(zA0 l x).s (ρ j') (κ j')):=by
 intro m;induction m with
 |zero=>
  intro j x M hj hij hM hM1 hE hR hB;exact⟨[],rfl,qJ.nil,hM,hE,fun a _ t=>rfl,fun j' h1 h2=>hR j' h1 oM⟩
 | succ m ih=>
  intro j x M hj hij hM hM1 hE hR hB;have hjr:j<r:=by omega
  have hp:0<x.s (ρ j) (κ j):=hE.pos j hjr;have hg1:gk m M<=gk (m+1) M:=zAM hM1 oM;have hnij:ρ i≠ρ j:=hinj i j hij hjr;have hskip:(0<=x.s (ρ i) (κ j)/\x.s (ρ i) (κ j)<x.s (ρ j) (κ j))->∃l,zEr B n Cs Ct ρ κ i m (j+1) x=some (zA0 l x)/\qJ n l/\leB (gk (m+1) M) n Cs Ct (zA0 l x)/\Ech Cs r κ (vw ρ (zA0 l x).s)/\(∀a,a≠ρ i->∀t,(zA0 l x).s a t=x.s a t)∧
   (∀j',i<j'->j'<r->0<=(zA0 l x).s (ρ i) (κ j')/\(zA0 l x).s (ρ i) (κ j')<(zA0 l x).s (ρ j') (κ j')):=fun hin=>by
   obtain⟨l,g1,g2,g3,g4⟩:=ih (j+1) x M oM oM hM hM1 hE (fun j' h1 h2=>by
    by_cases e:j'=j
    ·rw[e];exact hin
    ·exact hR j' h1 oM) oM
   exact⟨l,g1,g2,g3.mono hg1,g4⟩
  unfold zEr;by_cases h0:x.s (ρ i) (κ j)=0
  ·rw[if_pos h0]
   exact hskip oM
  ·rw [if_neg h0,if_neg oM]
   by_cases hq0:x.s (ρ i) (κ j)/x.s (ρ j) (κ j)=0
   ·rw[if_pos hq0]
    refine hskip ?_;have h1:=Int.mul_ediv_add_emod (x.s (ρ i) (κ j)) (x.s (ρ j) (κ j));have h2:=Int.emod_nonneg (x.s (ρ i) (κ j)) (b:=x.s (ρ j) (κ j)) oM;have h3:=Int.emod_lt_of_pos (x.s (ρ i) (κ j)) hp;rw[hq0,Int.mul_zero]at h1;omega
   ·rw [if_neg hq0]
    have hqM:(x.s (ρ i) (κ j)/x.s (ρ j) (κ j)).natAbs<=M:=zGc hp (hM.1 _ (hρ i oM) _ (hE.lt j hjr));obtain⟨q,hq⟩:∃q,x.s (ρ i) (κ j)/x.s (ρ j) (κ j)=q:=⟨_,rfl⟩;rw[hq]at hqM ⊢
    have hb2:=zD8 hM1 hqM;have hok:zBx B n Cs Ct x (ρ i) (ρ j) (-q):=zD7 hM (hρ i oM) (hρ j hjr) hnij hM1 (by
     rw[Int.natAbs_neg];have:2*M*M<=gk (m+1) M:=zGi m (Nat.le_trans hM1 (zET hM1));omega)
    rw[if_pos hok];have hoa:(Op.add (ρ i) (ρ j) (-q)).ok n:=⟨hρ i oM,hρ j hjr,hnij⟩;have hM2:leB (2*M*M) n Cs Ct (zA0 [.add (ρ i) (ρ j) (-q)] x):=(zGq hM hoa).mono (by simpa[Op.g]using hb2);have hst:∀a t,(zA0 [.add (ρ i) (ρ j) (-q)] x).s a t=if a=ρ i then x.s (ρ i) t+-q*x.s (ρ j) t else x.s a t:=fun a t=>rfl
    have hdm:=Int.mul_ediv_add_emod (x.s (ρ i) (κ j)) (x.s (ρ j) (κ j));have hm0:=Int.emod_nonneg (x.s (ρ i) (κ j)) (b:=x.s (ρ j) (κ j)) oM;have hml:=Int.emod_lt_of_pos (x.s (ρ i) (κ j)) hp;rw[hq]at hdm;have hne:∀a,a<r->a≠i->ρ a≠ρ i:=fun a ha e h=>by
     rcases Nat.lt_or_gt_of_ne e with h1|h1
     ·exact hinj a i h1 hi h
     ·exact hinj i a h1 ha h.symm
    have hEy:Ech Cs r κ (vw ρ (zA0 [.add (ρ i) (ρ j) (-q)] x).s):=by
     have hsm:∀t,t<=κ i->x.s (ρ i) t+-q*x.s (ρ j) t=x.s (ρ i) t:=fun t ht=>by
      have hz:x.s (ρ j) t=0:=hE.zero j hjr t (by have:=hE.inc i j hij hjr;omega);rw[hz];omega
     refine⟨hE.lt,fun a ha=>?_,fun a ha t ht=>?_,hE.inc⟩
     ·show 0<(zA0 [.add (ρ i) (ρ j) (-q)] x).s (ρ a) (κ a)
      rw[hst];by_cases e:a=i
      ·rw[e,if_pos rfl,hsm _ (xgf _)];exact hE.pos i oM
      ·rw[if_neg (hne a ha e)];exact hE.pos a ha
     ·show(zA0 [.add (ρ i) (ρ j) (-q)] x).s (ρ a) t=0
      rw[hst];by_cases e:a=i
      ·rw[e]at ht
       rw[e,if_pos rfl,hsm t oM];exact hE.zero i oM t ht
      ·rw[if_neg (hne a ha e)];exact hE.zero a ha t ht
    obtain⟨l,g1,g2,g3,g4,g5,g6⟩:=ih (j+1) (zA0 [.add (ρ i) (ρ j) (-q)] x) (2*M*M) oM oM hM2 (Nat.le_trans hM1 (zET hM1)) hEy
     (fun j' h1 h2=>by
      rw[hst,hst,if_pos rfl,if_neg (hne j' oM oM)];by_cases e:j'=j
      ·rw[e,Int.neg_mul,Int.mul_comm q]
       constructor<;>omega
      ·have hz:x.s (ρ j) (κ j')=0:=hE.zero j hjr (κ j') (hE.inc j' j oM hjr)
       rw[hz,Int.mul_zero,Int.add_zero];exact hR j' h1 oM) hB
    rw[<-zD9]at g1 g3 g4 g5 g6;refine⟨[Op.add (ρ i) (ρ j) (-q)]++l,g1,(qJ.cons hoa qJ.nil).app g2,g3,g4,fun a ha t=>?_,g6⟩;rw[g5 a ha t,hst,if_neg ha]
theorem zJR{B n Cs Ct r:Nat}{ρ κ:Nat->Nat}(hρ:∀k,k<r->ρ k<n)(hinj:∀a b,a<b->b<r->ρ a≠ρ b):∀(i:Nat) (x:Bst) (M:Nat),i<=r->leB M n Cs Ct x->1<=M->Ech Cs r κ (vw ρ x.s)->
  zGL (fun a _=>i<=a) r κ (vw ρ x.s)->gk (zM8 r i) M<B->
  ∃l,zGx B n Cs Ct ρ κ r i x=some (zA0 l x)/\qJ n l/\leB (gk (zM8 r i) M) n Cs Ct (zA0 l x)/\Ech Cs r κ (vw ρ (zA0 l x).s)/\zGL (fun _ _=>True) r κ (vw ρ (zA0 l x).s)∧
   (∀a,(∀k,k<r->ρ k≠a)->∀t,(zA0 l x).s a t=x.s a t):=by
 intro i;induction i with
 |zero=>
  intro x M hi hM hM1 hE hR hB;exact⟨[],rfl,qJ.nil,hM,hE,fun a b h1 h2 _=>hR a b h1 h2 (Nat.zero_le _),fun a _ t=>rfl⟩
 | succ i ih=>
  intro x M hi hM hM1 hE hR hB;have hsum:gk (zM8 r (i+1)) M=gk (zM8 r i) (gk (r-(i+1)) M):=zCR _ _ _;rw[hsum]at hB ⊢
  have hM2:=zCy (r-(i+1)) hM1;have hB1:gk (r-(i+1)) M<B:=Nat.lt_of_le_of_lt (zGi (zM8 r i) hM2) hB;obtain⟨l1,g1,g2,g3,g4,g5,g6⟩:=zJS (B:=B) (Ct:=Ct) (i:=i) hρ hinj oM (r-(i+1)) (i+1) x M oM oM hM hM1 hE (fun j' h1 h2=>by omega) hB1;have hne:∀a,a<r->a≠i->ρ a≠ρ i:=fun a ha e h=>by
   rcases Nat.lt_or_gt_of_ne e with h1|h1
   ·exact hinj a i h1 oM h
   ·exact hinj i a h1 ha h.symm
  obtain⟨l2,k1,k2,k3,k4,k5,k6⟩:=ih (zA0 l1 x) (gk (r-(i+1)) M) oM g3 hM2 g4
   (fun a b h1 h2 h3=>by
    show 0<=(zA0 l1 x).s (ρ a) (κ b)/\(zA0 l1 x).s (ρ a) (κ b)<(zA0 l1 x).s (ρ b) (κ b);by_cases e:a=i
    ·rw[e];exact g6 b oM h2
    ·rw[g5 _ (hne a oM e),g5 _ (hne b h2 oM)]
     exact hR a b h1 h2 oM) hB
  rw[<-zD9]at k1 k3 k4 k5 k6;refine⟨l1++l2,?_,g2.app k2,k3,k4,k5,fun a ha t=>?_⟩
  ·unfold zGx
   rw[g1,Option.bind_some];exact k1
  ·rw[k6 a ha t,g5 a (fun e=>ha i oM e.symm)]
theorem zIl{a b x y:Int}{M:Nat}(ha:a.natAbs<=M)(hb:b.natAbs<=M)(hx:x.natAbs<=M)(hy:y.natAbs<=M):(a*x+b*y).natAbs<=2*M*M:=by
 have h1:(a*x).natAbs<=M*M:=by rw[Int.natAbs_mul];exact Nat.mul_le_mul ha hx
 have h2:(b*y).natAbs<=M*M:=by rw[Int.natAbs_mul];exact Nat.mul_le_mul hb hy
 rw[Nat.mul_assoc];omega
theorem zDT{M n C i j:Nat}{a b c d:Int}{F:Nat->Nat->Int}(h:leM M n C F)(hM:1<=M)(hi:i<n)(hj:j<n)(ha:a.natAbs<=M)(hb:b.natAbs<=M)(hc:c.natAbs<=M)(hd:d.natAbs<=M):leM (2*M*M) n C (zZ F i j a b c d):=by
 intro r hr t ht;unfold zZ;split
 ·exact zIl ha hb (h i hi t ht) (h j hj t ht)
 ·split
  ·exact zIl hc hd (h i hi t ht) (h j hj t ht)
  ·exact Nat.le_trans (h r hr t ht) (zET hM)
theorem zKX{M n Cs Ct i j:Nat}{a b c d:Int}{x:Bst}(h:leB M n Cs Ct x)(hM:1<=M)(hi:i<n)(hj:j<n)(ha:a.natAbs<=M)(hb:b.natAbs<=M)(hc:c.natAbs<=M)(hd:d.natAbs<=M):leB (2*M*M) n Cs Ct (x.mix i j a b c d):=
 ⟨zDT h.1 hM hi hj ha hb hc hd,zDT h.2.1 hM hi hj ha hb hc hd,zDT h.2.2 hM hi hj hd (by rw[Int.natAbs_neg];exact hc) (by rw[Int.natAbs_neg];exact hb) ha⟩
theorem zMJ{B M n Cs Ct i j:Nat}{a b c d:Int}{x:Bst}(h:leB M n Cs Ct x)(hM:1<=M)(hi:i<n)(hj:j<n)(ha:a.natAbs<=M)(hb:b.natAbs<=M)(hc:c.natAbs<=M)(hd:d.natAbs<=M)(hB:2*M*M<B):zKk B n Cs Ct x i j a b c d:=by
 have h1:=zET hM;have hp:∀u v:Int,u.natAbs<=M->v.natAbs<=M->(u*v).natAbs<B:=fun u v hu hv=>by
  have e:(u*v).natAbs<=M*M:=by rw[Int.natAbs_mul];exact Nat.mul_le_mul hu hv
  rw[Nat.mul_assoc]at hB;omega
 exact⟨⟨by omega,by omega,by omega,by omega⟩,fun t ht=>⟨hp _ _ ha (h.1 i hi t ht),hp _ _ hb (h.1 j hj t ht),hp _ _ hc (h.1 i hi t ht),hp _ _ hd (h.1 j hj t ht)⟩,
  fun t ht=>⟨hp _ _ ha (h.2.1 i hi t ht),hp _ _ hb (h.2.1 j hj t ht),hp _ _ hc (h.2.1 i hi t ht),hp _ _ hd (h.2.1 j hj t ht)⟩,
  fun t ht=>⟨hp _ _ hd (h.2.2 i hi t ht),hp _ _ hc (h.2.2 j hj t ht),hp _ _ hb (h.2.2 i hi t ht),hp _ _ ha (h.2.2 j hj t ht)⟩,(zKX h hM hi hj ha hb hc hd).ok hB⟩
def yS(L:List (Nat × Nat))(k:Nat):Nat:=(L.getD k (0,0)).1
def zDH(L:List (Nat × Nat))(k:Nat):Nat:=(L.getD k (0,0)).2
structure JC(n Cs Ct M0:Nat)(x0:Bst)(b g:Nat)(x:Bst)(L:List (Nat × Nat)):Prop where
 ops:∃l,qJ n l/\x=zA0 l x0
 row:∀k,k<L.length->yS L k<b
 inj:∀i j,i<j->j<L.length->yS L i≠yS L j
 len:L.length<=b
 ech:Ech Cs L.length (zDH L) (vw (yS L) x.s)
 zero:∀a,a<b->(∀k,k<L.length->yS L k≠a)->∀t,t<Cs->x.s a t=0
 bd:leB (gk g M0) n Cs Ct x
def es:Nat->Nat
 |0=>0
 |m+1=>es m+m+m*(m+1)/2
theorem zKH{a b:Nat}(h:a<=b):es a<=es b:=by
 obtain⟨d,rfl⟩:=Nat.exists_eq_add_of_le h;clear h;induction d with
 |zero=>exact xgf _
 |succ d ih=>exact Nat.le_trans ih (by show _<=es (a+d)+(a+d)+_;omega)
def esr(r:Nat):Nat->Nat
 |0=>0
 |m+1=>esr r m+min m r+min m r*(min m r+1)/2
theorem zLy(r:Nat){a b:Nat}(h:a<=b):esr r a<=esr r b:=by
 obtain⟨d,rfl⟩:=Nat.exists_eq_add_of_le h;clear h;induction d with
 |zero=>exact xgf _
 |succ d ih=>exact Nat.le_trans ih (by show _<=esr r (a+d)+min (a+d) r+_;omega)
theorem zGf(r:Nat):∀m,esr r m<=es m
 |0=>xgf _
 |m+1=>Nat.add_le_add (Nat.add_le_add (zGf r m) (Nat.min_le_left m r)) (Nat.div_le_div_right (Nat.mul_le_mul (Nat.min_le_left m r) (Nat.succ_le_succ (Nat.min_le_left m r))))
def RkB(r n Cs:Nat)(x0:Bst):Prop:=∀(l:List Op) (k:Nat) (ρ κ:Nat->Nat),qJ n l->k<=n->(∀j,j<k->ρ j<n)->(∀i j,i<j->j<k->ρ i≠ρ j)->Ech Cs k κ (vw ρ (zA0 l x0).s)->k<=r
theorem RkB.all{n Cs:Nat}{x0:Bst}:RkB n n Cs x0:=fun _ _ _ _ _ h _ _ _=>h
theorem JC.rk{r n Cs Ct M0 b g:Nat}{x0 x:Bst}{L:List (Nat × Nat)}(h:JC n Cs Ct M0 x0 b g x L)(hb:b<=n)(hr:RkB r n Cs x0):L.length<=r:=by
 obtain⟨l,h1,h2⟩:=h.ops;exact hr l _ (yS L) (zDH L) h1 (Nat.le_trans h.len hb) (fun j hj=>Nat.lt_of_lt_of_le (h.row j hj) hb) h.inj (h2 ▸ h.ech)
def JH(r n Cs Ct M0:Nat)(x0:Bst)(m:Nat)(x:Bst)(L:List (Nat × Nat)):Prop:=
 m<=n/\(∃g,g<=L.length/\(m<n->∀i,i<g->lead Cs x.s m<0∨(zDH L i:Int)<lead Cs x.s m)/\(m=n->g=0)/\JC n Cs Ct M0 x0 m (esr r m+g) x L)/\(m=n->zGL (fun _ _=>True) L.length (zDH L) (vw (yS L) x.s))
def JH'(r n Cs Ct M0:Nat)(x0:Bst)(m:Nat)(x:Bst)(L:List (Nat × Nat)):Prop:=JC n Cs Ct M0 x0 (m+1) (esr r m+min m r) x L
section
variable {B r n Cs Ct M0:Nat} {x0:Bst}
theorem JC.lok{b g:Nat}{x:Bst}{L:List (Nat × Nat)}(h:JC n Cs Ct M0 x0 b g x L)(hb:b<=n):LOk n Cs b x L:=by
 refine⟨fun k hk=>⟨h.row k hk,Nat.lt_of_lt_of_le (h.row k hk) hb,h.ech.lt k hk,?_⟩,h.ech.inc,h.inj,Nat.le_trans h.len hb⟩;have:0<x.s (yS L k) (zDH L k):=h.ech.pos k hk;have e:x.s (L.getD k (0,0)).1 (L.getD k (0,0)).2=x.s (yS L k) (zDH L k):=rfl;rw[e];omega
theorem zDX{x y:Bst}{l l':List Op}(h1:qJ n l)(h2:x=zA0 l x0)(h3:qJ n l')(h4:y=zA0 l' x):∃l,qJ n l/\y=zA0 l x0:=⟨l++l',h1.app h3,by rw[zD9,<-h2];exact h4⟩
theorem zGn{m k c e:Nat}{x y:Bst}{L:List (Nat × Nat)}(hm:m<n)(hM0:1<=M0)(hcC:c<Cs){g:Nat}(h:JC n Cs Ct M0 x0 m g x L)(he:e<=k)(hk:k<L.length)(hc:zDH L k=c)
  (hy:∃l,qJ n l/\y=zA0 l x) (ho:∀a,a≠m->a≠yS L k->∀t,y.s a t=x.s a t) (hp:0<y.s (yS L k) c) (hz:∀t,t<c->y.s (yS L k) t=0) (hmz:∀t,t<=c->y.s m t=0) (hb:leB (gk (esr r m+e+1) M0) n Cs Ct y):
  JH r n Cs Ct M0 x0 m y L/\(lead Cs y.s m<0∨(c:Int)<lead Cs y.s m):=by
 have hl:lead Cs y.s m<0∨(c:Int)<lead Cs y.s m:=by
  rcases zAO Cs y.s m with⟨g,-⟩|⟨c1,g1,g2,g3,-⟩
  ·left;omega
  ·right
   rcases Nat.lt_or_ge c c1 with h|h
   ·omega
   ·exact absurd (hmz c1 h) g3
 have hne:∀a,a<L.length->a≠k->yS L a≠yS L k:=fun a ha e hh=>by
  rcases Nat.lt_or_gt_of_ne e with h1|h1
  ·exact h.inj a k h1 hk hh
  ·exact h.inj k a h1 ha hh.symm
 have hrm:∀a,a<L.length->yS L a≠m:=fun a ha=>by have:=h.row a ha;omega
 obtain⟨l,hl1,hl2⟩:=h.ops;obtain⟨l',hl3,hl4⟩:=hy;refine⟨⟨by omega,⟨k+1,hk,fun _ i hi=>?_,fun e=>by omega,⟨zDX hl1 hl2 hl3 hl4,h.row,h.inj,h.len,⟨h.ech.lt,fun a ha=>?_,fun a ha t ht=>?_,h.ech.inc⟩,fun a ha hna t ht=>?_,hb.mono (zAM hM0 oM)⟩⟩,fun e=>by omega⟩,hl⟩
 ·have:zDH L i<=c:=by
   rcases Nat.lt_or_ge i k with h1|h1
   ·have:=h.ech.inc i k h1 hk;omega
   ·obtain rfl:i=k:=by omega
    omega
  omega
 ·show 0<y.s (yS L a) (zDH L a)
  by_cases e:a=k
  ·rw[e,hc];exact hp
  ·rw[ho _ (hrm a ha) (hne a ha e)];exact h.ech.pos a ha
 ·show y.s (yS L a) t=0
  by_cases e:a=k
  ·rw[e,hc]at ht
   rw[e];exact hz t ht
  ·rw[ho _ (hrm a ha) (hne a ha e)];exact h.ech.zero a ha t ht
 ·rw[ho a oM (fun e=>hna k hk e.symm)]
  exact h.zero a ha hna t ht
theorem zL6{m k c e:Nat}{x:Bst}{L:List (Nat × Nat)}(hm:m<n)(hM0:1<=M0)(h:JC n Cs Ct M0 x0 m (esr r m+e) x L)(he:e<=k)(hl:lead Cs x.s m=(c:Int))(hk:k<L.length)(hc:zDH L k=c)
  (hd:x.s m c%x.s (yS L k) c=0):JH r n Cs Ct M0 x0 m (x.add m (yS L k) (-(x.s m c/x.s (yS L k) c))) L/\(lead Cs (x.add m (yS L k) (-(x.s m c/x.s (yS L k) c))).s m<0∨(c:Int)<lead Cs (x.add m (yS L k) (-(x.s m c/x.s (yS L k) c))).s m):=by
 obtain⟨hcC,-⟩:=zAA hl;have hrm:=h.row k hk;have hz:∀t,t<c->x.s (yS L k) t=0:=fun t ht=>h.ech.zero k hk t (by rw[hc];exact ht)
 have hp:0<x.s (yS L k) c:=by have:=h.ech.pos k hk;rw[hc]at this;exact this
 have hmz:∀t,t<c->x.s m t=0:=by
  rcases zAO Cs x.s m with⟨g,-⟩|⟨c1,g1,g2,g3,g4⟩
  ·omega
  ·obtain rfl:c1=c:=by omega
   exact g4
 have hM:=zCy (esr r m+e) hM0;have hq:(x.s m c/x.s (yS L k) c).natAbs<=gk (esr r m+e) M0:=zGc hp (h.bd.1 m hm c hcC);have hoa:(Op.add m (yS L k) (-(x.s m c/x.s (yS L k) c))).ok n:=⟨hm,by omega,by omega⟩;have hst:∀a t,(x.add m (yS L k) (-(x.s m c/x.s (yS L k) c))).s a t=if a=m then x.s m t+-(x.s m c/x.s (yS L k) c)*x.s (yS L k) t else x.s a t:=fun a t=>rfl
 refine zGn hm hM0 hcC h he hk hc ⟨[_],qJ.cons hoa qJ.nil,rfl⟩ (fun a h1 h2 t=>by rw[hst,if_neg h1]) (by rw[hst,if_neg oM];exact hp) (fun t ht=>by rw[hst,if_neg oM];exact hz t ht) (fun t ht=>?_) ?_
 ·rw[hst,if_pos rfl]
  by_cases ee:t=c
  ·subst ee
   have:=Int.mul_ediv_add_emod (x.s m t) (x.s (yS L k) t);rw[Int.neg_mul,Int.mul_comm (x.s m t/_)];omega
  ·rw[hmz t oM,hz t oM,Int.mul_zero];rfl
 ·refine(zGq h.bd hoa).mono ?_
  rw[zCR (esr r m+e) 1];show _<=2*gk (esr r m+e) M0*gk (esr r m+e) M0;have:(Op.add m (yS L k) (-(x.s m c/x.s (yS L k) c))).g=1+(x.s m c/x.s (yS L k) c).natAbs:=by simp[Op.g]
  rw[this];exact zD8 hM hq
theorem zNS{x y:Int}(hx:0<x){g:Int}(hg:g=((Int.gcd x y:Nat):Int)):0<g/\g*(x/g)=x/\g*(y/g)=y/\(x/g).natAbs<=x.natAbs/\(y/g).natAbs<=y.natAbs:=by
 have h0:Int.gcd x y≠0:=fun e=>by rw[Int.gcd_eq_zero_iff]at e;omega
 have hg0:0<g:=by omega
 have d1:g∣x:=by rw[hg];exact Int.gcd_dvd_left ..
 have d2:g∣y:=by rw[hg];exact Int.gcd_dvd_right ..
 exact⟨hg0,Int.mul_ediv_cancel' d1,Int.mul_ediv_cancel' d2,zGc hg0 (xgf _),zGc hg0 (xgf _)⟩
def zPJ(x:Bst)(r m c:Nat)(s t:Int):Bst:=x.mix r m s t (-(x.s m c/((Int.gcd (x.s r c) (x.s m c):Nat):Int))) (x.s r c/((Int.gcd (x.s r c) (x.s m c):Nat):Int))
def zM6(B n Cs Ct G m c:Nat)(x:Bst)(r:Nat)(s t:Int):Prop:=G<B->zKk B n Cs Ct x r m s t (-(x.s m c/((Int.gcd (x.s r c) (x.s m c):Nat):Int))) (x.s r c/((Int.gcd (x.s r c) (x.s m c):Nat):Int))
theorem zIN{m k c e:Nat}{x:Bst}{L:List (Nat × Nat)}(hm:m<n)(hM0:1<=M0)(h:JC n Cs Ct M0 x0 m (esr r m+e) x L)(he:e<=k)(hl:lead Cs x.s m=(c:Int))(hk:k<L.length)(hc:zDH L k=c)(s t:Int)
  (hbz:Bez (x.s (yS L k) c) (x.s m c) s t):zM6 B n Cs Ct (gk (esr r m+e+1) M0) m c x (yS L k) s t/\(JH r n Cs Ct M0 x0 m (zPJ x (yS L k) m c s t) L/\(lead Cs (zPJ x (yS L k) m c s t).s m<0∨(c:Int)<lead Cs (zPJ x (yS L k) m c s t).s m)):=by
 obtain⟨hcC,-⟩:=zAA hl;have hrm:=h.row k hk;have hz:∀t,t<c->x.s (yS L k) t=0:=fun t ht=>h.ech.zero k hk t (by rw[hc];exact ht)
 have hp:0<x.s (yS L k) c:=by have:=h.ech.pos k hk;rw[hc]at this;exact this
 have hmz:∀t,t<c->x.s m t=0:=by
  rcases zAO Cs x.s m with⟨g,-⟩|⟨c1,g1,g2,g3,g4⟩
  ·omega
  ·obtain rfl:c1=c:=by omega
   exact g4
 have hM:=zCy (esr r m+e) hM0;have bx:=h.bd.1 (yS L k) oM c hcC;have by_:=h.bd.1 m hm c hcC;obtain⟨hb1,hb2,hb3⟩:=hbz;obtain⟨g,hg⟩:∃g:Int,((Int.gcd (x.s (yS L k) c) (x.s m c):Nat):Int)=g:=⟨_,rfl⟩;obtain⟨d1,d2,d3,d4,d5⟩:=zNS hp hg.symm;have q1:s.natAbs<=gk (esr r m+e) M0:=by omega
 have q2:t.natAbs<=gk (esr r m+e) M0:=by omega
 have q3:(-(x.s m c/g)).natAbs<=gk (esr r m+e) M0:=by rw[Int.natAbs_neg];omega
 have q4:(x.s (yS L k) c/g).natAbs<=gk (esr r m+e) M0:=by omega
 have hbd:=zKX h.bd hM (by omega:yS L k<n) hm q1 q2 q3 q4;unfold zM6 zPJ;rw[hg]at hb1 ⊢
 refine⟨fun hB=>zMJ h.bd hM oM hm q1 q2 q3 q4 (by rw[zCR (esr r m+e) 1]at hB;exact hB),?_⟩;have hne:yS L k≠m:=by omega
 have hdet:s*(x.s (yS L k) c/g)-t*(-(x.s m c/g))=1:=by
  have e':g*(s*(x.s (yS L k) c/g)-t*(-(x.s m c/g)))=g*1:=by
   rw[Int.mul_neg,Int.sub_neg,Int.mul_add,Int.mul_left_comm g s,Int.mul_left_comm g t,d2,d3,hb1,Int.mul_one]
  exact Int.eq_of_mul_eq_mul_left oM e'
 obtain⟨l,l1,l2⟩:=zN0 (n:=n) (by omega:yS L k<n) hm hne _ s t (-(x.s m c/g)) (x.s (yS L k) c/g) rfl hdet;have hst:∀a u,(x.mix (yS L k) m s t (-(x.s m c/g)) (x.s (yS L k) c/g)).s a u=if a=yS L k then s*x.s (yS L k) u+t*x.s m u else if a=m then-(x.s m c/g)*x.s (yS L k) u+x.s (yS L k) c/g*x.s m u else x.s a u:=fun a u=>rfl
 refine zGn hm hM0 hcC h he hk hc ⟨l,l1,l2 x⟩ (fun a h1 h2 u=>by rw[hst,if_neg h2,if_neg h1]) (by rw[hst,if_pos rfl,hb1];exact d1) (fun u hu=>by rw[hst,if_pos rfl,hz u hu,hmz u hu];simp) (fun u hu=>?_) (by rw[zCR (esr r m+e) 1];exact hbd);rw[hst,if_neg (Ne.symm hne),if_pos rfl];by_cases ee:u=c
 ·subst ee
  have e1:x.s m u/g*x.s (yS L k) u=x.s (yS L k) u/g*x.s m u:=by
   have:g*(x.s m u/g*x.s (yS L k) u)=g*(x.s (yS L k) u/g*x.s m u):=by
    rw[<-Int.mul_assoc,d3,<-Int.mul_assoc,d2,Int.mul_comm]
   exact Int.eq_of_mul_eq_mul_left oM this
  rw[Int.neg_mul,e1];omega
 ·rw[hmz u oM,hz u oM];simp
theorem zIf(L:List (Nat × Nat)){k m c:Nat}(hk:k<=L.length)(a:Nat):(L.take k++(m,c)::L.drop k).getD a (0,0)=if a<k then L.getD a (0,0)else if a=k then(m,c)else L.getD (a-1) (0,0):=by
 rw[xgb];split
 ·rename_i h
  rw[List.getElem?_append_left (by simp;omega),List.getElem?_take_of_lt h,<-xgb]
 ·rename_i h
  rw[List.getElem?_append_right (by simp;omega)];have e:(L.take k).length=k:=by simp;omega
  rw[e];split
  ·rename_i h2
   rw[h2];simp
  ·rename_i h2
   obtain⟨d,hd⟩:∃d,a-k=d+1:=⟨a-k-1,by omega⟩;rw[hd,List.getElem?_cons_succ,List.getElem?_drop,<-xgb];congr 1;omega
theorem zOk{m k c e:Nat}{x:Bst}{L:List (Nat × Nat)}(hm:m<n)(hM0:1<=M0)(h:JC n Cs Ct M0 x0 m (esr r m+e) x L)(he:e<=min m r)(hl:lead Cs x.s m=(c:Int))(hk:k<=L.length)(hlo:∀i,i<k->zDH L i<c)(hhi:∀i,k<=i->i<L.length->c<zDH L i):
  JH' r n Cs Ct M0 x0 m (if x.s m c<0 then x.neg m else x) (L.take k++(m,c)::L.drop k):=by
 obtain⟨hcC,hn0⟩:=zAA hl;have hmz:∀t,t<c->x.s m t=0:=by
  rcases zAO Cs x.s m with⟨g,-⟩|⟨c1,g1,g2,g3,g4⟩
  ·omega
  ·obtain rfl:c1=c:=by omega
   exact g4
 obtain⟨ng,h1,h2,h3⟩:∃ng,qJ n ng/\gro ng=1/\(if x.s m c<0 then x.neg m else x)=zA0 ng x:=by
  by_cases hneg:x.s m c<0
  ·rw[if_pos hneg];exact⟨[.neg m],qJ.cons hm qJ.nil,rfl,rfl⟩
  ·rw[if_neg hneg];exact⟨[],qJ.nil,rfl,rfl⟩
 have hb:leB (gk (esr r m+min m r) M0) n Cs Ct (if x.s m c<0 then x.neg m else x):=by
  rw[h3];refine(zNt h1 h.bd).mono ?_;rw[h2,Nat.mul_one];exact zAM hM0 oM
 obtain⟨y,hy⟩:∃y,(if x.s m c<0 then x.neg m else x)=y:=⟨_,rfl⟩;have ho:∀a,a≠m->∀t,y.s a t=x.s a t:=fun a ha t=>by
  rw[<-hy];split
  ·show(if a=m then _ else x.s a t)=_
   rw[if_neg ha]
  ·rfl
 have hpos:0<y.s m c:=by
  rw[<-hy];split
  ·show 0<(if m=m then-(x.s m c)else _)
   rw[if_pos rfl];omega
  ·omega
 have hz:∀t,t<c->y.s m t=0:=fun t ht=>by
  rw[<-hy];split
  ·show(if m=m then-(x.s m t)else _)=0
   rw[if_pos rfl,hmz t ht];rfl
  ·exact hmz t ht
 rw[hy]at h3 hb ⊢
 obtain⟨l,hl1,hl2⟩:=h.ops;have hlen:(L.take k++(m,c)::L.drop k).length=L.length+1:=by simp;omega
 have er:∀a,yS (L.take k++(m,c)::L.drop k) a=if a<k then yS L a else if a=k then m else yS L (a-1):=fun a=>by
  unfold yS;rw[zIf L hk];split
  ·rfl
  ·split<;>rfl
 have ec:∀a,zDH (L.take k++(m,c)::L.drop k) a=if a<k then zDH L a else if a=k then c else zDH L (a-1):=fun a=>by
  unfold zDH;rw[zIf L hk];split
  ·rfl
  ·split<;>rfl
 have hrow:=h.row;have hinj:=h.inj;have hinc:=h.ech.inc;have hll:=h.len;refine⟨zDX hl1 hl2 h1 h3,fun a ha=>?_,fun a b hab hb'=>?_,by omega,⟨fun a ha=>?_,fun a ha=>?_,fun a ha t ht=>?_,fun a b hab hb'=>?_⟩,fun a ha hna t ht=>?_,hb⟩
 ·rw[hlen]at ha
  rw[er];split
  ·have:=hrow a oM;omega
  ·split
   ·omega
   ·have:=hrow (a-1) oM;omega
 ·rw[hlen]at hb'
  rw[er a,er b];by_cases g1:a<k
  ·rw[if_pos g1]
   by_cases g2:b<k
   ·rw[if_pos g2];exact hinj a b hab oM
   ·rw[if_neg g2]
    by_cases g3:b=k
    ·rw[if_pos g3];have:=hrow a oM;omega
    ·rw[if_neg g3];exact hinj a (b-1) oM oM
  ·rw[if_neg g1,if_neg (show ¬ b<k by omega),if_neg (show ¬ b=k by omega)]
   by_cases g3:a=k
   ·rw[if_pos g3];have:=hrow (b-1) oM;omega
   ·rw[if_neg g3];exact hinj (a-1) (b-1) oM oM
 ·rw[hlen]at ha
  rw[ec];split
  ·exact h.ech.lt a oM
  ·split
   ·exact hcC
   ·exact h.ech.lt (a-1) oM
 ·rw[hlen]at ha
  show 0<y.s (yS _ a) (zDH _ a);rw[er,ec];split
  ·rw[ho _ (by have:=hrow a oM;omega)];exact h.ech.pos a oM
  ·split
   ·exact hpos
   ·rw[ho _ (by have:=hrow (a-1) oM;omega)];exact h.ech.pos (a-1) oM
 ·rw[hlen]at ha
  show y.s (yS _ a) t=0;rw[ec]at ht;rw[er];split
  ·rename_i g1
   rw[if_pos g1]at ht;rw[ho _ (by have:=hrow a oM;omega)];exact h.ech.zero a oM t ht
  ·rename_i g1
   rw[if_neg g1]at ht;split
   ·rename_i g2
    rw[if_pos g2]at ht;exact hz t ht
   ·rename_i g2
    rw[if_neg g2]at ht;rw[ho _ (by have:=hrow (a-1) oM;omega)];exact h.ech.zero (a-1) oM t ht
 ·rw [hlen]at hb'
  rw[ec a,ec b];by_cases g1:a<k
  ·rw[if_pos g1]
   by_cases g2:b<k
   ·rw[if_pos g2];exact hinc a b hab oM
   ·rw[if_neg g2]
    by_cases g3:b=k
    ·rw[if_pos g3];exact hlo a g1
    ·rw[if_neg g3]
     have i1:=hlo a g1;have i2:=hhi (b-1) oM oM;omega
  ·rw[if_neg g1,if_neg (show ¬ b<k by omega),if_neg (show ¬ b=k by omega)]
   by_cases g3:a=k
   ·rw[if_pos g3];exact hhi (b-1) oM oM
   ·rw[if_neg g3];exact hinc (a-1) (b-1) oM oM
 ·have ham:a≠m:=fun e=>hna k (by rw[hlen];omega) (by rw[er,if_neg oM,if_pos rfl];exact e.symm)
  rw[ho a ham];refine h.zero a oM (fun j hj=>?_) t ht;by_cases hjk:j<k
  ·have:=hna j (by rw[hlen];omega)
   rw[er,if_pos hjk]at this;exact this
  ·have:=hna (j+1) (by rw[hlen];omega)
   rw[er,if_neg oM,if_neg oM]at this;exact this
theorem zMT:∀m,m<6->∀r,r<=m+1->zM8 r r<=m*(m+1)/2:=by decide
theorem zKF(hn:n<=6)(hM0:1<=M0)(hB:gk (esr r n) M0<B)(hrk:RkB r n Cs x0):zOK B n Cs Ct (JH r n Cs Ct M0 x0) (JH' r n Cs Ct M0 x0):=by
 have hg:∀a,a<=esr r n->gk a M0<B:=fun a ha=>Nat.lt_of_le_of_lt (zAM hM0 ha) hB
 have hes:∀m,m<n->esr r m+min m r+min m r*(min m r+1)/2<=esr r n:=fun m hm=>zLy r (show m+1<=n from hm)
 refine⟨fun m x L h=>?_,fun m x L hm h=>?_,fun m x L hm h hl=>?_,fun m x L k c hm h hl hk hc=>?_,fun m x L k c hm h hl hk hlo hhi=>?_,fun m x L hm h=>?_⟩
 ·obtain⟨h1,⟨g,g1,-,g3,g4⟩,-⟩:=h
  refine⟨g4.bd.ok (hg _ ?_),g4.lok h1⟩;rcases Nat.lt_or_ge m n with hm|hm
  ·have:=hes m hm
   have:=g4.len;have:=g4.rk h1 hrk;omega
  ·obtain rfl:m=n:=by omega
   rw[g3 rfl];exact xgf _
 ·exact⟨h.bd.ok (hg _ (by have:=hes m hm;omega)),h.lok oM⟩
 ·obtain⟨h1,⟨g,g1,-,-,h2⟩,-⟩:=h
  refine⟨h2.ops,fun k hk=>Nat.lt_succ_of_lt (h2.row k hk),h2.inj,Nat.le_succ_of_le h2.len,h2.ech,fun a ha hna t ht=>?_,h2.bd.mono (zAM hM0 ?_)⟩
  ·by_cases e:a=m
   ·rw[e];exact zD4 hl t ht
   ·exact h2.zero a oM hna t ht
  ·have:=h2.len
   have:=h2.rk h1 hrk;omega
 ·obtain⟨h1,⟨g,g1,g2,-,h2⟩,-⟩:=h
  obtain⟨hcC,-⟩:=zAA hl;have hgk:g<=k:=by
   refine Nat.le_of_not_lt fun hlt=>?_
   have:=g2 hm k hlt;rw[hl,show zDH L k=c from hc]at this;omega
  have hen:esr r m+g+1<=esr r n:=by
   have:=hes m hm;have:=h2.len;have:=h2.rk h1 hrk;have:g+1<=min m r:=by omega
   omega
  refine⟨fun hd=>?_,fun s t hbz=>?_,fun y hy=>?_⟩
  ·have hp:0<x.s (yS L k) c:=by
    have:=h2.ech.pos k hk;rw[show zDH L k=c from hc]at this;exact this
   have hM:=zCy (esr r m+g) hM0;have hrm:=h2.row k hk;have hq:(x.s m c/x.s (yS L k) c).natAbs<=gk (esr r m+g) M0:=zGc hp (h2.bd.1 m hm c hcC);refine zD7 h2.bd hm (show yS L k<n by omega) (show m≠yS L k by omega) hM ?_;rw[Int.natAbs_neg];have e1:=zD8 hM hq;have e2:=hg (esr r m+g+1) hen;rw[zCR (esr r m+g) 1]at e2;exact Nat.lt_of_le_of_lt e1 e2
  ·exact(zIN (B:=B) hm hM0 h2 hgk hl hk hc s t hbz).1 (hg _ hen)
  ·cases hy with
   |add hd=>exact zL6 hm hM0 h2 hgk hl hk hc hd
   |mix s t hd hbz=>exact(zIN (B:=B) hm hM0 h2 hgk hl hk hc s t hbz).2
 ·obtain⟨h1,⟨g,g1,-,-,h2⟩,-⟩:=h
  exact zOk hm hM0 h2 (by have:=h2.len;have:=h2.rk h1 hrk;omega) hl hk hlo hhi
 ·have h':JC n Cs Ct M0 x0 (m+1) (esr r m+min m r) x L:=h
  have hr:zM8 L.length L.length<=min m r*(min m r+1)/2:=zMT (min m r) oM L.length (by have:=h'.len;have:=h'.rk hm hrk;omega);have hen:=hes m hm;obtain⟨l,g1,g2,g3,g4,g5,g6⟩:=zJR (B:=B) (Ct:=Ct) (ρ:=yS L) (κ:=zDH L) (fun k hk=>Nat.lt_of_lt_of_le (h'.row k hk) oM) h'.inj L.length x (gk (esr r m+min m r) M0) (xgf _) h'.bd (zCy _ hM0) h'.ech
   (fun a b h1 h2 h3=>by omega) (by rw[<-zCR];exact hg _ oM)
  obtain⟨l',k1,k2⟩:=h'.ops;refine⟨zA0 l x,g1,by omega,⟨0,Nat.zero_le _,fun _ i hi=>by omega,fun _=>rfl,⟨zDX k1 k2 g2 rfl,h'.row,h'.inj,h'.len,g4,fun a ha hna t ht=>?_,?_⟩⟩,fun _=>g5⟩
  ·rw[g6 a hna]
   exact h'.zero a ha hna t ht
  ·refine g3.mono ?_
   rw[<-zCR];refine zAM hM0 ?_;show _<=esr r m+min m r+min m r*(min m r+1)/2+0;omega
theorem JH.fin{x:Bst}{L:List (Nat × Nat)}(h:JH r n Cs Ct M0 x0 n x L):JC n Cs Ct M0 x0 n (esr r n) x L/\zGL (fun _ _=>True) L.length (zDH L) (vw (yS L) x.s):=by
 obtain⟨-,⟨g,-,-,g3,g4⟩,h3⟩:=h;rw[g3 rfl]at g4;exact⟨g4,h3 rfl⟩
theorem zIM(h:leB M0 n Cs Ct x0)(hM0:1<=M0):JH r n Cs Ct M0 x0 0 x0 []:=
 ⟨Nat.zero_le _,⟨0,Nat.zero_le _,fun _ i hi=>by omega,fun _=>rfl,⟨⟨[],qJ.nil,rfl⟩,fun k hk=>by simp at hk,fun i j _ hj=>by simp at hj,xgf _,⟨fun k hk=>by simp at hk,fun k hk=>by simp at hk,fun k hk=>by simp at hk,fun k l _ hl=>by simp at hl⟩,fun a ha=>by omega,h.mono (zGi _ hM0)⟩⟩,fun _ i j _ hj=>by simp at hj⟩
end
end Go.Proofs.YtgnmdddaiefooaaGreat
