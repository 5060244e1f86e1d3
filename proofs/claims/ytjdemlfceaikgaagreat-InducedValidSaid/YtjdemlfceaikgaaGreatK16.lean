/- Invariants and minors; smith's run on small matrices ends within bounds. Plain Lean. -/
import Derived.Test.YtjdemlfceaikgaaGreatK12
set_option linter.unusedVariables false
set_option linter.unusedSimpArgs false
set_option linter.unusedSectionVars false
namespace Go.Proofs.YtjdemlfceaikgaaGreat
open Go.RowKit
def MinD (R C k : Nat) (A : Nat->Nat->Int) (g : Int) : Prop:=∀σ τ : Nat->Nat,(∀a,a < k->σ a < R)->(∀a,a < k->τ a < C)->g ∣ det k fun a b=>A (σ a) (τ b)
def Fac (R C : Nat) (F G : Nat->Nat->Int) : Prop:=∃P Q : Nat->Nat->Int,∀a,a < R->∀b,b < C->G a b = sumN R fun s=>P a s * sumN C fun t=>F s t * Q t b
theorem MinD.tr {R C k : Nat} {F : Nat->Nat->Int} {g : Int} (h : MinD R C k F g) : MinD C R k (trF F) g:=fun σ τ hσ hτ=>by
 have:=h τ σ hτ hσ
 rw [<-det_trp] at this
 exact this
structure Inv (R C r : Nat) (A F : Nat->Nat->Int) : Prop where
 dg : Dg R C r F
 chn : Chn 0 (min R C) F
 fwd : Fac R C A F
 bwd : Fac R C F A
theorem Dg.nonneg {R C r i : Nat} {F : Nat->Nat->Int} (h : Dg R C r F) (hi : i < min R C) : 0<=F i i:=by
 rcases Nat.lt_or_ge i r with h1 | h1
 ·have:=h.pos i h1; omega
 ·rw [h.zero i h1 hi]; exact Int.le_refl _
theorem EB_ex : ∃n : Nat,n = 8796093022208:=⟨_,rfl⟩
noncomputable def EB : Nat:=EB_ex.choose
theorem EB_eq : EB = 8796093022208:=EB_ex.choose_spec
noncomputable def BB : Nat:=2 ^ EB
theorem SW_ex : ∃n : Nat,n = 2 ^ 120:=⟨_,rfl⟩
noncomputable def SW : Nat:=SW_ex.choose
end Go.Proofs.YtjdemlfceaikgaaGreat
