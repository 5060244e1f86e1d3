/- smith's run (the mirror) ends, within bounds, in a diagonal. Plain Lean. -/
import Derived.Test.YtnocgagoaldfnaaGreatD27
set_option linter.unusedVariables false
set_option linter.unusedSimpArgs false
set_option linter.unusedSectionVars false
namespace Go.Proofs.YtnocgagoaldfnaaGreat
open Go.RowKit
def rnds : List (List Op × List Op)->W5->W5
 | [],z=>z
 | p :: L,z=>rnds L (rnd z p.1 p.2)
def okL (R C : Nat) (L : List (List Op × List Op)) : Prop:=∀p ∈ L,okOps R p.1/\okOps C p.2
theorem okL.cons {R C : Nat} {p : List Op × List Op} {L : List (List Op × List Op)} (h1 : okOps R p.1) (h2 : okOps C p.2) (h : okL R C L) : okL R C (p :: L):=fun q hq=>by
 rcases List.mem_cons.1 hq with rfl | hq
 ·exact ⟨h1,h2⟩
 ·exact h q hq
theorem Rel.rnds {R C : Nat} {A : Nat->Nat->Int} {L : List (List Op × List Op)} (hL : okL R C L) : ∀{z : W5},Rel R C A z->Rel R C A (rnds L z):=by
 induction L with
 | nil=>intro z h; exact h
 | cons p L ih=>
  intro z h
  exact ih (fun q hq=>hL q (List.mem_cons_of_mem _ hq)) (h.rnd (hL p (List.mem_cons_self ..)).1 (hL p (List.mem_cons_self ..)).2)
theorem rnds_s (L : List (List Op × List Op)) : ∀{z y : W5},z.s = y.s->(rnds L z).s = (rnds L y).s:=by
 induction L with
 | nil=>intro z y h; exact h
 | cons p L ih=>
  intro z y h
  refine ih ?_
  show trF (opsF p.2 (trF (opsF p.1 z.s))) = trF (opsF p.2 (trF (opsF p.1 y.s)))
  rw [h]
theorem mid_prod {R C r h : Nat} {A : Nat->Nat->Int} {z : W5} (hR : R<=4) (h1 : 1<=h) (hA : leM h R C A) (hz : Rel R C A z) (hH : Hnf C R r (fun k=>k) z.s) (hcol : ∀a,a < R->∀b,r<=b->b < C->z.s a b = 0) : (prodN r (fun i=>z.s i i)).natAbs<=24 * h ^ 4:=
 hnf_prod (Nat.le_trans hH.le hR) h1 hH hcol hA (P:=z.u) (Q:=fun t b=>z.w b t) (P':=fun a s=>z.v s a) (Q':=fun t b=>z.x t b) hz.s hz.back
theorem low_prod {R C r h : Nat} {A : Nat->Nat->Int} {z : W5} (hR : R<=4) (h1 : 1<=h) (hA : leM h R C A) (hz : Rel R C A z) (hF : Low R C r z.s) : (prodN r (fun i=>z.s i i)).natAbs<=24 * h ^ 4:=
 hnf_prod (A:=trF A) (H:=trF z.s) (Nat.le_trans hF.le hR) h1 hF.hnf (fun a ha b h2 h3=>hF.row b h2 h3 a ha) (leM_tr hA) (P:=z.w) (Q:=fun t b=>z.u b t) (P':=fun a s=>z.x s a) (Q':=fun t b=>z.v t b)
  (fun a ha b hb=>by
   show z.s b a = _
   rw [hz.s b hb a ha]
   simp only [<-sumN_mul]
   rw [sumN_swap]
   refine sumN_congr fun t ht=>sumN_congr fun s hs=>?_
   show z.u b s * (A s t * z.w a t) = z.w a t * (A s t * z.u b s)
   rw [Int.mul_left_comm,Int.mul_comm (z.u b s),Int.mul_comm (A s t),Int.mul_assoc,Int.mul_left_comm,Int.mul_comm (z.u b s)]
   grind)
  (fun a ha b hb=>by
   show A b a = _
   rw [hz.back b hb a ha]
   simp only [<-sumN_mul]
   rw [sumN_swap]
   refine sumN_congr fun t ht=>sumN_congr fun s hs=>?_
   show z.v s b * (z.s s t * z.x t a) = z.x t a * (z.s s t * z.v s b)
   grind)
theorem low_small {R C r T : Nat} {F : Nat->Nat->Int} (hF : Low R C r F) (hT : (prodN r (fun i=>F i i)).natAbs<=T) : leM T R C F:=
 leM_tr (hnf_small hF.hnf (fun a ha b h2 h3=>hF.row b h2 h3 a ha) hT)
theorem mu_pos {R C r : Nat} {F : Nat->Nat->Int} (hF : Low R C r F) : 0 < mu r F:=prodN_pos fun j hj=>prodN_pos fun i hi=>hF.hnf.ech.pos i oM
theorem half_of_dvd {a b : Int} (ha : 0 < a) (hb : 0 < b) (h : a ∣ b) (hne : a ≠ b) : 2 * a<=b:=by
 obtain ⟨k,rfl⟩:=h
 have hk : 0 < k:=by
  rcases Int.lt_or_le 0 k with h | h
  ·exact h
  ·have:=Int.mul_nonpos_of_nonneg_of_nonpos (Int.le_of_lt ha) h
   omega
 have hk1 : k ≠ 1:=fun e=>hne (by rw [e,Int.mul_one])
 have : a * 2<=a * k:=Int.mul_le_mul_of_nonneg_left oM oM
 omega
theorem run_later {B R C Cu Cw r h T : Nat} {A : Nat->Nat->Int} (hR : R<=4) (hC : C<=4) (h1 : 1<=h) (hA : leM h R C A) (hT1 : 1<=T) (hhT : 24 * h ^ 4<=T) : ∀(N : Nat) (z zg : W5) (M : Nat),Low R C r z.s->leW M R C Cu Cw z->zg.s = z.s->Rel R C A zg->mu r z.s < 2 ^ N ->
  1<=M->M * (GE T * GE T) ^ (N + 1) < B->∃f rr L,(∀g,f<=g->runGo B R C Cu Cw g rr z = some (rnds L z))/\okL R C L/\leW (M * (GE T * GE T) ^ (N + 1)) R C Cu Cw (rnds L z)/\Low R C r (rnds L z).s/\diagF R C (rnds L z).s:=by
 intro N
 have hG2 : 1<=GE T * GE T:=Nat.mul_pos (GE_pos hT1) (GE_pos hT1)
 induction N with
 | zero=>
  intro z zg M hF hM hs hz hmu hM1 hB
  have:=mu_pos hF
  omega
 | succ N ih=>
  intro z zg M hF hM hs hz hmu hM1 hB
  have hsmall : leM T R C z.s:=low_small hF (Nat.le_trans (by
   have:=low_prod hR h1 hA hz (by rw [hs]; exact hF)
   rwa [hs] at this) hhT)
  have hB1 : M * (GE T * GE T) < B:=Nat.lt_of_le_of_lt (Nat.mul_le_mul_left _ (Nat.le_self_pow oM _)) hB
  obtain ⟨f,l1,l2,r1,c1,r2,c2,a1,a2,a3,a4,a5,a6⟩:=round_ends hR hC hM hsmall hT1 hM1 hB1 (fun l r' c hl hH=>by
   obtain ⟨e,hH',hcol⟩:=first hF hl hH
   have:=mid_prod hR h1 hA (hz.rows hl) (by rw [hs]; exact hH') (by rw [hs]; exact hcol)
   rw [hs] at this
   exact hnf_small hH' hcol (Nat.le_trans this hhT))
  obtain ⟨b1,b2,b3⟩:=later (h:=h) (A:=A) hR hF a2 a3 a5 a6
  have hpow : M * (GE T * GE T) * (GE T * GE T) ^ (N + 1) = M * (GE T * GE T) ^ (N + 1 + 1):=by
   rw [Nat.mul_assoc,<-Nat.pow_succ']
  by_cases hd : diagF R C (rnd z l1 l2).s
  ·refine ⟨f,1,[(l1,l2)],fun g hg=>?_,okL.cons a2 a3 (fun p hp=>by cases hp),a4.mono (Nat.mul_le_mul_left _ (Nat.le_self_pow oM _)),b1,hd⟩
   unfold runGo
   rw [a1 g hg,Option.bind_some,if_pos hd]
   rfl
  ·have hne : mu r (rnd z l1 l2).s ≠ mu r z.s:=fun e=>hd (b3 e)
   have hh:=half_of_dvd (mu_pos b1) (mu_pos hF) b2 hne
   have hmu' : mu r (rnd z l1 l2).s < 2 ^ N:=by
    have : (2 : Int) ^ (N + 1) = 2 ^ N * 2:=Int.pow_succ 2 N
    omega
   obtain ⟨f',rr,L,k1,k2,k3,k4,k5⟩:=ih (rnd z l1 l2) (rnd zg l1 l2) (M * (GE T * GE T)) b1 a4 (by
    show trF (opsF l2 (trF (opsF l1 zg.s))) = trF (opsF l2 (trF (opsF l1 z.s)))
    rw [hs]) (hz.rnd a2 a3) hmu' (Nat.mul_pos hM1 hG2) (by rw [hpow]; exact hB)
   refine ⟨max f f',rr + 1,(l1,l2) :: L,fun g hg=>?_,okL.cons a2 a3 k2,?_,k4,k5⟩
   ·unfold runGo
    rw [a1 g oM,Option.bind_some,if_neg hd,k1 g oM]
    rfl
   ·rw [<-hpow]; exact k3
theorem prodN_le_pow {n : Nat} {f : Nat->Int} {D : Nat} (h0 : ∀i,i < n->0 < f i) (h : ∀i,i < n->f i<=(D : Int)) : prodN n f<=((D ^ n : Nat) : Int):=by
 induction n with
 | zero=>exact Int.le_refl _
 | succ n ih=>
  have h1:=ih (fun i hi=>h0 i oM) (fun i hi=>h i oM)
  have h2:=h n oM
  have h3:=h0 n oM
  have h4:=prodN_pos (n:=n) (f:=f) fun i hi=>h0 i oM
  have h5 : prodN n f * f n<=prodN n f * (D : Int):=Int.mul_le_mul_of_nonneg_left h2 oM
  have h6 : prodN n f * (D : Int)<=((D ^ n : Nat) : Int) * (D : Int):=Int.mul_le_mul_of_nonneg_right h1 oM
  have h7 : ((D ^ (n + 1) : Nat) : Int) = ((D ^ n : Nat) : Int) * (D : Int):=by rw [Nat.pow_succ,Int.natCast_mul]
  unfold prodN
  omega
theorem prodN_mono {r : Nat} {f : Nat->Int} (h : ∀i,i < r->0 < f i) : ∀j,j<=r->prodN j f<=prodN r f:=by
 intro j hj
 obtain ⟨d,rfl⟩:=Nat.exists_eq_add_of_le hj
 clear hj
 induction d with
 | zero=>exact Int.le_refl _
 | succ d ih=>
  have h1:=ih (fun i hi=>h i oM)
  have h2 : 0 < prodN (j + d) f:=prodN_pos fun i hi=>h i oM
  have h3:=h (j + d) oM
  have h4 : prodN (j + d) f * 1<=prodN (j + d) f * f (j + d):=Int.mul_le_mul_of_nonneg_left oM oM
  show _<=prodN (j + d) f * f (j + d)
  omega
theorem mu_le {R C r D : Nat} {F : Nat->Nat->Int} (hr : r<=4) (hF : Low R C r F) (hD : (prodN r (fun i=>F i i)).natAbs<=D) (hD1 : 1<=D) : mu r F<=((D ^ 4 : Nat) : Int):=by
 have hp : ∀i,i < r->0 < F i i:=fun i hi=>hF.hnf.ech.pos i hi
 have h1:=prodN_le_pow (n:=r) (f:=fun j=>prodN (j + 1) fun i=>F i i) (D:=D) (fun j hj=>prodN_pos fun i hi=>hp i oM) (fun j hj=>by
  have:=prodN_mono hp (j + 1) oM
  omega)
 have h2 : D ^ r<=D ^ 4:=le_pow2 hD1 hr
 unfold mu
 omega
theorem run_ends {B R C Cu Cw h M N T : Nat} {A : Nat->Nat->Int} {z : W5} (hR : R<=4) (hC : C<=4) (h1 : 1<=h) (hA : leM h R C A) (hzs : z.s = A) (hM : leW M R C Cu Cw z) (hM1 : 1<=M) (hT : 24 * (8 * h) ^ 4<=T) (hN : (24 * h ^ 4) ^ 4 < 2 ^ N) (hB : M * (GE T * GE T) ^ (N + 2) < B) :
  ∃f rr L r,runGo B R C Cu Cw f rr z = some (rnds L z)/\okL R C L/\leW (M * (GE T * GE T) ^ (N + 2)) R C Cu Cw (rnds L z)/\Low R C r (rnds L z).s/\diagF R C (rnds L z).s/\(prodN r (fun i=>(rnds L z).s i i)).natAbs<=24 * h ^ 4:=by
 have hh4 : h<=h ^ 4:=Nat.le_self_pow oM _
 have hhT : 24 * h ^ 4<=T:=Nat.le_trans (Nat.mul_le_mul_left _ (Nat.pow_le_pow_left oM _)) hT
 have hT1 : 1<=T:=by omega
 have hG2 : 1<=GE T * GE T:=Nat.mul_pos (GE_pos hT1) (GE_pos hT1)
 have hg0 : Rel R C A ⟨A,idf,idf,idf,idf⟩:=Rel.start R C A
 have hB1 : M * (GE T * GE T) < B:=Nat.lt_of_le_of_lt (Nat.mul_le_mul_left _ (Nat.le_self_pow oM _)) hB
 obtain ⟨f,l1,l2,r1,c1,r2,c2,a1,a2,a3,a4,a5,a6⟩:=round_ends hR hC hM (by rw [hzs]; exact hA.mono oM) hT1 hM1 hB1 (fun l r' c hl hH=>by
  rw [hzs] at hH ⊢
  exact (hnf_bound hR h1 hH hA (fun a ha b _=>ops_back hl A a ha b) (ops_dot hl (dot_idf R))).mono hT)
 obtain ⟨-,-,hL⟩:=second a5 a3 a6
 have hLow : Low R C r1 (rnd z l1 l2).s:=hL
 have hgs : (rnd ⟨A,idf,idf,idf,idf⟩ l1 l2).s = (rnd z l1 l2).s:=by
  show trF (opsF l2 (trF (opsF l1 A))) = trF (opsF l2 (trF (opsF l1 z.s)))
  rw [hzs]
 have hg1:=hg0.rnd a2 a3
 have hprod : ∀L,okL R C L->∀r,Low R C r (rnds L z).s->(prodN r (fun i=>(rnds L z).s i i)).natAbs<=24 * h ^ 4:=fun L hL' r hlow=>by
  have e : (rnds L ⟨A,idf,idf,idf,idf⟩).s = (rnds L z).s:=rnds_s L hzs.symm
  have:=low_prod hR h1 hA (Rel.rnds hL' hg0) (by rw [e]; exact hlow)
  rwa [e] at this
 by_cases hd : diagF R C (rnd z l1 l2).s
 ·have hok : okL R C [(l1,l2)]:=okL.cons a2 a3 (fun p hp=>by cases hp)
  refine ⟨f,1,[(l1,l2)],r1,?_,hok,a4.mono (Nat.mul_le_mul_left _ (Nat.le_self_pow oM _)),hLow,hd,hprod _ hok _ hLow⟩
  unfold runGo
  rw [a1 f (Nat.le_refl _),Option.bind_some,if_pos hd]
  rfl
 ·have hpow : M * (GE T * GE T) * (GE T * GE T) ^ (N + 1) = M * (GE T * GE T) ^ (N + 2):=by
   rw [Nat.mul_assoc,<-Nat.pow_succ']
  have hmu : mu r1 (rnd z l1 l2).s < 2 ^ N:=by
   have hp1:=hprod [(l1,l2)] (okL.cons a2 a3 (fun p hp=>by cases hp)) r1 hLow
   have:=mu_le (Nat.le_trans hLow.le hR) hLow hp1 oM
   have e : ((2 ^ N : Nat) : Int) = (2 : Int) ^ N:=by rw [Int.natCast_pow]; rfl
   omega
  obtain ⟨f',rr,L,k1,k2,k3,k4,k5⟩:=run_later hR hC h1 hA hT1 hhT N (rnd z l1 l2) (rnd ⟨A,idf,idf,idf,idf⟩ l1 l2) (M * (GE T * GE T)) hLow a4 hgs hg1 hmu (Nat.mul_pos hM1 hG2) (by rw [hpow]; exact hB)
  have hok : okL R C ((l1,l2) :: L):=okL.cons a2 a3 k2
  refine ⟨max f f',rr + 1,(l1,l2) :: L,r1,?_,hok,?_,k4,k5,hprod _ hok _ k4⟩
  ·unfold runGo
   rw [a1 _ oM,Option.bind_some,if_neg hd,k1 _ oM]
   rfl
  ·rw [<-hpow]; exact k3
end Go.Proofs.YtnocgagoaldfnaaGreat
