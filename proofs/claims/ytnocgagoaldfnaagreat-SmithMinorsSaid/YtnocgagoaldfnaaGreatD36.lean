/- Invariants and minors; smith's run on small matrices ends within bounds. Plain Lean. -/
import Derived.Test.YtnocgagoaldfnaaGreatD35
set_option linter.unusedVariables false
set_option linter.unusedSimpArgs false
set_option linter.unusedSectionVars false
namespace Go.Proofs.YtnocgagoaldfnaaGreat
open Go.RowKit
def MinD (R C k : Nat) (A : Nat->Nat->Int) (g : Int) : Prop:=∀σ τ : Nat->Nat,(∀a,a < k->σ a < R)->(∀a,a < k->τ a < C)->g ∣ det k fun a b=>A (σ a) (τ b)
def Fac (R C : Nat) (F G : Nat->Nat->Int) : Prop:=∃P Q : Nat->Nat->Int,∀a,a < R->∀b,b < C->G a b = sumN R fun s=>P a s * sumN C fun t=>F s t * Q t b
theorem MinD.fac {R C k : Nat} {F G : Nat->Nat->Int} {g : Int} (h : MinD R C k F g) (hf : Fac R C F G) : MinD R C k G g:=by
 obtain ⟨P,Q,e⟩:=hf
 intro σ τ hσ hτ
 rw [det_congr (G:=fun a b=>sumN R fun s=>P (σ a) s * sumN C fun t=>F s t * Q t (τ b)) fun a ha b hb=>e _ (hσ a ha) _ (hτ b hb)]
 exact det_dvd_both (P:=fun a s=>P (σ a) s) (Q:=fun t b=>Q t (τ b)) h
theorem MinD.tr {R C k : Nat} {F : Nat->Nat->Int} {g : Int} (h : MinD R C k F g) : MinD C R k (trF F) g:=fun σ τ hσ hτ=>by
 have:=h τ σ hτ hσ
 rw [<-det_trp] at this
 exact this
theorem Rel.facTo {R C : Nat} {A : Nat->Nat->Int} {z : W5} (h : Rel R C A z) : Fac R C A z.s:=⟨z.u,fun t b=>z.w b t,h.s⟩
theorem Rel.facFrom {R C : Nat} {A : Nat->Nat->Int} {z : W5} (h : Rel R C A z) : Fac R C z.s A:=⟨fun a s=>z.v s a,fun t b=>z.x t b,h.back⟩
theorem least_of {P : Nat->Prop} : ∀f,P f->∃f,P f/\∀g,P g->f<=g:=by
 intro f
 induction f using Nat.strongRecOn with
 | ind f ih=>
  intro hf
  by_cases h : ∃g,g < f/\P g
  ·obtain ⟨g,h1,h2⟩:=h
   exact ih g h1 h2
  ·exact ⟨f,hf,fun g hg=>Nat.le_of_not_lt fun hlt=>h ⟨g,hlt,hg⟩⟩
theorem Dg.minors {R C r k : Nat} {F : Nat->Nat->Int} (h : Dg R C r F) (hc : Chn 0 (min R C) F) (hk : k<=min R C) : MinD R C k F (prodN k fun i=>F i i):=by
 refine fun σ τ hσ hτ=>dvd_both_inc (R:=R) (C:=C) (fun σ τ hσ hτ hi hj=>?_) σ τ hσ hτ
 by_cases he : ∀a,a < k->σ a = τ a
 ·rw [det_lower fun a ha b hb hab=>?_]
  ·refine prodN_dvd fun i hik=>?_
   rw [<-he i hik]
   have h1:=hi.le i hik
   have h2:=hσ i hik
   have h3:=hτ i hik
   rw [<-he i hik] at h3
   rcases Nat.lt_or_ge i (σ i) with h4 | h4
   ·exact hc i (σ i) (Nat.zero_le _) h4 oM
   ·rw [show σ i = i by omega]; exact Int.dvd_refl _
  ·refine h.off _ (hσ a ha) _ (hτ b hb) ?_
   rw [<-he b hb]
   have:=hi.lt a b hab hb
   omega
 ·-- the first place where they differ
  have hex : ∃a,(a < k/\σ a ≠ τ a)/\∀b,b < a->b < k->σ b = τ b:=by
   obtain ⟨a,ha⟩:=Classical.not_forall.1 he
   obtain ⟨ha1,ha2⟩:=Classical.not_imp.1 ha
   obtain ⟨m,hm1,hm2⟩:=least_of (P:=fun a=>a < k/\σ a ≠ τ a) a ⟨ha1,ha2⟩
   exact ⟨m,hm1,fun b hb hbk=>Classical.byContradiction fun hne=>by
    have:=hm2 b ⟨hbk,hne⟩
    omega⟩
  obtain ⟨a,⟨ha,hne⟩,hbef⟩:=hex
  rcases Nat.lt_or_ge (σ a) (τ a) with h1 | h1
  ·rw [det_row_zero ha fun b hb=>?_]
   ·exact Int.dvd_zero _
   ·refine h.off _ (hσ a ha) _ (hτ b hb) fun e=>?_
    rcases Nat.lt_trichotomy b a with h2 | h2 | h2
    ·have:=hi.lt b a h2 ha
     rw [hbef b h2 hb] at this
     omega
    ·subst h2; omega
    ·have:=hj.lt a b h2 hb
     omega
  ·rw [det_col_zero (c:=a) ha fun b hb=>?_]
   ·exact Int.dvd_zero _
   ·refine h.off _ (hσ b hb) _ (hτ a ha) fun e=>?_
    rcases Nat.lt_trichotomy b a with h2 | h2 | h2
    ·have:=hj.lt b a h2 ha
     rw [<-hbef b h2 hb] at this
     omega
    ·subst h2; omega
    ·have:=hi.lt a b h2 hb
     omega
theorem Dg.gen {R C r k : Nat} {F : Nat->Nat->Int} {g : Int} (h : Dg R C r F) (hk : k<=min R C) (hm : MinD R C k F g) : g ∣ prodN k fun i=>F i i:=by
 have:=hm (fun a=>a) (fun a=>a) (fun a ha=>by omega) (fun a ha=>by omega)
 rwa [det_lower fun a ha b hb hab=>h.off a oM b oM oM] at this
structure Inv (R C r : Nat) (A F : Nat->Nat->Int) : Prop where
 dg : Dg R C r F
 chn : Chn 0 (min R C) F
 fwd : Fac R C A F
 bwd : Fac R C F A
theorem Inv.minors {R C r k : Nat} {A F : Nat->Nat->Int} (h : Inv R C r A F) (hk : k<=min R C) : MinD R C k A (prodN k fun i=>F i i):=(h.dg.minors h.chn hk).fac h.bwd
theorem Inv.gen {R C r k : Nat} {A F : Nat->Nat->Int} {g : Int} (h : Inv R C r A F) (hk : k<=min R C) (hm : MinD R C k A g) : g ∣ prodN k fun i=>F i i:=h.dg.gen hk (hm.fac h.fwd)
theorem Dg.nonneg {R C r i : Nat} {F : Nat->Nat->Int} (h : Dg R C r F) (hi : i < min R C) : 0<=F i i:=by
 rcases Nat.lt_or_ge i r with h1 | h1
 ·have:=h.pos i h1; omega
 ·rw [h.zero i h1 hi]; exact Int.le_refl _
theorem Inv.of_relS {R C r : Nat} {A F : Nat->Nat->Int} (h : RelS R C r A F) (hc : Chn 0 (min R C) F) : Inv R C r A F:=by
 obtain ⟨hd,u,v,w,x,hr⟩:=h
 exact ⟨hd,hc,hr.facTo,hr.facFrom⟩
theorem EB_ex : ∃n : Nat,n = 549755813888:=⟨_,rfl⟩
noncomputable def EB : Nat:=EB_ex.choose
theorem EB_eq : EB = 549755813888:=EB_ex.choose_spec
noncomputable def BB : Nat:=2 ^ EB
theorem pow_num {T N K E e : Nat} (hT : 2 * T = 2 ^ 98) (hQ : 4 * T * T = 2 ^ 196) (he : e = 20 + (98 * K + 98 * K) * (N + 2) + 196 * (N + 1)) (hE : e < E) : 1048576 * (((2 * T) ^ K * (2 * T) ^ K) ^ (N + 2)) * (4 * T * T) ^ (N + 1) < 2 ^ E:=by
 have e3 : (1048576 : Nat) = 2 ^ 20:=by decide +kernel
 rw [hT,hQ,e3,<-Nat.pow_mul,<-Nat.pow_mul,<-Nat.pow_add,<-Nat.pow_mul,<-Nat.pow_add,<-Nat.pow_add,<-he]
 exact Nat.pow_lt_pow_right oM hE
theorem run_num {T N : Nat} (hT : T = 2 ^ 97) (hN : N = 341) : 1048576 * ((GE T * GE T) ^ (N + 2)) * (4 * T * T) ^ (N + 1) < BB:=by
 refine pow_num (T:=T) (N:=N) (K:=KE) (E:=EB) (e:=20 + (98 * KE + 98 * KE) * (N + 2) + 196 * (N + 1)) ?_ ?_ rfl ?_
 ·rw [hT]
 ·rw [hT]
 ·rw [hN,EB_eq]; unfold KE; omega
theorem smith_all {R C Cu Cw : Nat} {z : W5} (hR : R<=4) (hC : C<=4) (hs : leM 1048576 R C z.s) (hu : leM 1 R Cu z.u) (hv : leM 1 R Cu z.v) (hw : leM 1 C Cw z.w) (hx : leM 1 C Cw z.x) :
  ∃f rr L r,runGo BB R C Cu Cw f rr z = some (rnds L z)/\okL R C L/\okW BB R C Cu Cw z/\Dg R C r (rnds L z).s/\∀y,DivR (min R C) (rnds L z) y->okW BB R C Cu Cw y/\∀i j,i < j->j < min R C->¬ y.s i i ∣ y.s j j->DivOk BB C Cu Cw y i j:=by
 have hM : leW 1048576 R C Cu Cw z:=⟨hs,hu.mono oM,hv.mono oM,hw.mono oM,hx.mono oM⟩
 obtain ⟨T,hT0⟩ : ∃T : Nat,T = 2 ^ 97:=⟨_,rfl⟩
 obtain ⟨N,hN0⟩ : ∃N : Nat,N = 341:=⟨_,rfl⟩
 have hT : 24 * (8 * 1048576) ^ 4<=T:=by rw [hT0]; decide +kernel
 have hN : (24 * 1048576 ^ 4) ^ 4 < 2 ^ N:=by rw [hN0]; decide +kernel
 have hD : 24 * 1048576 ^ 4<=T:=by rw [hT0]; decide +kernel
 have hT1 : 1<=T:=by rw [hT0]; decide +kernel
 have hnum:=run_num hT0 hN0
 clear hT0 hN0
 have hQ : 1<=(4 * T * T) ^ (N + 1):=Nat.pow_pos (Nat.mul_pos oM hT1)
 have hB1 : 1048576 * ((GE T * GE T) ^ (N + 2)) < BB:=Nat.lt_of_le_of_lt (Nat.le_mul_of_pos_right _ hQ) hnum
 have hpos : 1<=(GE T * GE T) ^ (N + 2):=Nat.pow_pos (Nat.mul_pos (GE_pos hT1) (GE_pos hT1))
 obtain ⟨f,rr,L,r,h1,h2,h3,h4,h5,h6⟩:=run_ends (h:=1048576) hR hC dE hs rfl hM dE hT hN hB1
 have hdg:=h4.dg h5
 have hmu : mu r (rnds L z).s < 2 ^ N:=by
  have:=mu_le (Nat.le_trans h4.le hR) h4 h6 dE
  have e : (((24 * 1048576 ^ 4) ^ 4 : Nat) : Int) < ((2 ^ N : Nat) : Int):=Int.ofNat_lt.2 hN
  have e2 : ((2 ^ N : Nat) : Int) = (2 : Int) ^ N:=by rw [Int.natCast_pow]; rfl
  exact Int.lt_of_le_of_lt this (e2 ▸ e)
 have hB2 : 1 < BB:=Nat.lt_of_le_of_lt (Nat.le_trans dE (Nat.le_mul_of_pos_right _ hpos)) hB1
 refine ⟨f,rr,L,r,h1,h2,⟨hs.ok (Nat.lt_of_le_of_lt (Nat.le_mul_of_pos_right _ hpos) hB1),hu.ok hB2,hv.ok hB2,hw.ok hB2,hx.ok hB2⟩,hdg,fun y hy=>?_⟩
 exact div_oks (Nat.le_trans h6 hD) hT1 (Nat.mul_pos dE hpos) hdg h3.u h3.v h3.w h3.x hmu hnum hy
end Go.Proofs.YtnocgagoaldfnaaGreat
