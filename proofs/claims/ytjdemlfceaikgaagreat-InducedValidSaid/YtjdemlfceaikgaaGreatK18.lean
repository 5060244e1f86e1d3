/- Plain: the determinant and the pivots. Plain: lattices, their Hermite bases, kernels and saturations. Plain: ranks by minors; how large the Hermite bases of kernels and saturations are. Plain: saturations, primitive matrices, complements. kernel.cut, kernel.rank. hermite.Form of a matrix whose first rows are in Hermite form already: their taking in costs nothing. torsionref12: Work.Negate (printed by genK.py). torsionref12: Pivot, Is. torsionref12.Check. hermite.Reduce. Plain: how large the Hermite bases of kernels are, for up to seven rows (printed by genWb7.py). -/
import Derived.Test.YtjdemlfceaikgaaGreatK02
import Derived.Test.YtjdemlfceaikgaaGreatK10
import Derived.Test.YtjdemlfceaikgaaGreatK11
import Derived.Test.YtjdemlfceaikgaaGreatK14
import Derived.Test.YtjdemlfceaikgaaGreatK15
set_option linter.unusedVariables false
set_option linter.unusedSimpArgs false
set_option linter.unusedSectionVars false
namespace Go.Proofs.YtjdemlfceaikgaaGreat
open Go.RowKit
theorem det_self {n : Nat} {A : Nat->Nat->Int} (σ τ : Nat->Nat) (hσ : ∀a,a < n->σ a < n) (hτ : ∀a,a < n->τ a < n) : det n A ∣ det n fun a b=>A (σ a) (τ b):=by
 refine dvd_both_inc (R:=n) (C:=n) (F:=A) (fun σ τ hσ hτ hi hj=>?_) σ τ hσ hτ
 have idn : ∀σ : Nat->Nat,(∀a,a < n->σ a < n)->Inc n σ->∀a,a < n->σ a = a:=fun σ hσ hi a ha=>by
  have h1:=hi.le a ha
  have h2 : ∀j,a + j < n->σ a + j<=σ (a + j):=fun j=>by
   induction j with
   | zero=>intro _; exact Nat.le_refl _
   | succ j ih=>
    intro hj
    have h3:=hi (a + j) oM
    have h4:=ih oM
    have h5 : a + (j + 1) = a + j + 1:=rfl
    rw [h5]
    omega
  have h3:=h2 (n - 1 - a) oM
  have h4:=hσ (a + (n - 1 - a)) oM
  omega
 have he : det n (fun a b=>A (σ a) (τ b)) = det n A:=det_congr fun a ha b hb=>by rw [idn σ hσ hi a ha,idn τ hτ hj b hb]
 rw [he]
 exact Int.dvd_refl _
def lapF (n : Nat) (F : Nat->Nat->Int) (j : Nat) : Int:=sumN j fun t=>sg1 t * (F 0 t * det n (mnr F 0 t))
def SpanL (m C : Nat) (A : Nat->Nat->Int) (x : Nat->Int) : Prop:=∃y : Nat->Int,∀b,b < C->x b = sumN m fun a=>y a * A a b
def KerL (R C : Nat) (A : Nat->Nat->Int) (x : Nat->Int) : Prop:=∀b,b < C->(sumN R fun a=>x a * A a b) = 0
def SatL (R C : Nat) (A : Nat->Nat->Int) (x : Nat->Int) : Prop:=∀y : Nat->Int,(∀a,a < R->(sumN C fun b=>A a b * y b) = 0)->(sumN C fun b=>x b * y b) = 0
structure HB (C m : Nat) (G : Nat->Nat->Int) (L : (Nat->Int)->Prop) : Prop where
 hnf : ∃c,Hnf C m m c G
 iff : ∀x,L x ↔ SpanL m C G x
theorem SpanL.row {m C a : Nat} (A : Nat->Nat->Int) (ha : a < m) : SpanL m C A (A a):=
 ⟨fun t=>if t = a then 1 else 0,fun b _=>by rw [sumN_one ha (fun i _ hne=>by dsimp only; rw [if_neg hne,Int.zero_mul])]; dsimp only; rw [if_pos rfl,Int.one_mul]⟩
theorem SpanL.sub {m m' C : Nat} {A G : Nat->Nat->Int} {x : Nat->Int} (h : ∀a,a < m->SpanL m' C G (A a)) (hx : SpanL m C A x) : SpanL m' C G x:=by
 obtain ⟨y,hy⟩:=hx
 have hY : ∀a,∃Y : Nat->Int,a < m->∀b,b < C->A a b = sumN m' fun t=>Y t * G t b:=fun a=>by
  by_cases ha : a < m
  ·obtain ⟨Y,h⟩:=h a ha
   exact ⟨Y,fun _=>h⟩
  ·exact ⟨fun _=>0,fun h=>absurd h ha⟩
 refine ⟨fun t=>sumN m fun a=>y a * (hY a).choose t,fun b hb=>?_⟩
 rw [hy b hb]
 have e : (sumN m fun a=>y a * A a b) = sumN m fun a=>sumN m' fun t=>y a * (hY a).choose t * G t b:=sumN_congr fun a ha=>by
  rw [(hY a).choose_spec ha b hb,<-sumN_mul]
  exact sumN_congr fun t _=>by rw [Int.mul_assoc]
 rw [e,sumN_swap]
 exact sumN_congr fun t _=>sumN_mulr _ _ _
theorem SpanL.congr {m C : Nat} {A B : Nat->Nat->Int} (h : ∀a,a < m->∀b,b < C->A a b = B a b) (x : Nat->Int) : SpanL m C A x ↔ SpanL m C B x:=by
 constructor <;> (rintro ⟨y,hy⟩; refine ⟨y,fun b hb=>(hy b hb).trans (sumN_congr fun a ha=>by rw [h a ha b hb])⟩)
theorem KerL.congr {R C : Nat} {A B : Nat->Nat->Int} (h : ∀a,a < R->∀b,b < C->A a b = B a b) (x : Nat->Int) : KerL R C A x ↔ KerL R C B x:=by
 constructor <;> (intro hx b hb; rw [<-hx b hb]; exact sumN_congr fun a ha=>by rw [h a ha b hb])
theorem SatL.congr {R C : Nat} {A B : Nat->Nat->Int} (h : ∀a,a < R->∀b,b < C->A a b = B a b) (x : Nat->Int) : SatL R C A x ↔ SatL R C B x:=by
 constructor <;> (intro hx y hy; refine hx y fun a ha=>?_; rw [<-hy a ha]; exact sumN_congr fun b hb=>by rw [h a ha b hb])
def padF (m : Nat) (G : Nat->Nat->Int) : Nat->Nat->Int:=fun a b=>if a < m then G a b else 0
theorem pad_hnf {C m n : Nat} {c : Nat->Nat} {G : Nat->Nat->Int} (h : Hnf C m m c G) (hm : m<=n) : Hnf C n m c (padF m G):=by
 have e : ∀a,a < m->∀b,padF m G a b = G a b:=fun a ha b=>if_pos ha
 exact ⟨hm,⟨h.ech.lt,fun k hk=>by rw [e k hk]; exact h.ech.pos k hk,fun k hk t ht=>by rw [e k hk]; exact h.ech.zero k hk t ht,h.ech.inc⟩,
  fun i j h1 h2 h3=>by rw [e i oM,e j h2]; exact h.red i j h1 h2 h3,fun a h1 _ t _=>if_neg oM⟩
theorem pad_span {C m m' n : Nat} {G G' : Nat->Nat->Int} (hm : m<=n) (h : ∀a,a < m'->SpanL m C G (G' a)) : Spans n C (padF m G) (padF m' G'):=by
 have hY : ∀a,∃Y : Nat->Int,a < m'->∀b,b < C->G' a b = sumN m fun t=>Y t * G t b:=fun a=>by
  by_cases ha : a < m'
  ·obtain ⟨Y,h⟩:=h a ha
   exact ⟨Y,fun _=>h⟩
  ·exact ⟨fun _=>0,fun h=>absurd h ha⟩
 refine ⟨fun a t=>if a < m' then (hY a).choose t else 0,fun a _ b hb=>?_⟩
 rw [sumN_ext hm (fun t h1 _=>by rw [show padF m G t b = 0 from if_neg oM,Int.mul_zero])]
 by_cases ha : a < m'
 ·rw [show padF m' G' a b = G' a b from if_pos ha,(hY a).choose_spec ha b hb]
  exact sumN_congr fun t ht=>by dsimp only; rw [if_pos ha,show padF m G t b = G t b from if_pos ht]
 ·rw [show padF m' G' a b = 0 from if_neg ha]
  exact (sumN_zero fun t _=>by dsimp only; rw [if_neg ha,Int.zero_mul]).symm
theorem HB.eq {C m m' : Nat} {G G' : Nat->Nat->Int} {L L' : (Nat->Int)->Prop} (h : HB C m G L) (h' : HB C m' G' L') (e : ∀x,L x ↔ L' x) : m = m'/\∀a,a < m->∀b,b < C->G' a b = G a b:=by
 obtain ⟨c,hc⟩:=h.hnf
 obtain ⟨c',hc'⟩:=h'.hnf
 have s1 : ∀a,a < m'->SpanL m C G (G' a):=fun a ha=>(h.iff _).1 ((e _).2 ((h'.iff _).2 (SpanL.row G' ha)))
 have s2 : ∀a,a < m->SpanL m' C G' (G a):=fun a ha=>(h'.iff _).1 ((e _).1 ((h.iff _).2 (SpanL.row G ha)))
 obtain ⟨e1,-,e2⟩:=hnf_unique (pad_hnf hc (Nat.le_add_right m m')) (pad_hnf hc' (Nat.le_add_left m' m)) (pad_span (Nat.le_add_right m m') s1) (pad_span (Nat.le_add_left m' m) s2)
 refine ⟨e1,fun a ha b hb=>?_⟩
 have:=e2 a oM b hb
 rwa [show padF m' G' a b = G' a b from if_pos oM,show padF m G a b = G a b from if_pos ha] at this
theorem HB.mat {C m m' : Nat} {G G' : Nat->Nat->Int} {L L' : (Nat->Int)->Prop} (h : HB C m G L) (h' : HB C m' G' L') (e : ∀x,L x ↔ L' x) : m = m'/\genM m C G = genM m' C G':=by
 obtain ⟨rfl,e2⟩:=h.eq h' e
 exact ⟨rfl,genM_congr fun a ha b hb=>(e2 a ha b hb).symm⟩
theorem HB.of {C m : Nat} {G : Nat->Nat->Int} {L L' : (Nat->Int)->Prop} (h : HB C m G L) (e : ∀x,L x ↔ L' x) : HB C m G L':=⟨h.hnf,fun x=>(e x).symm.trans (h.iff x)⟩
theorem HLat.hb {R C r : Nat} {c : Nat->Nat} {A H : Nat->Nat->Int} (h : HLat R C r c A H) : HB C r H (SpanL R C A):=by
 refine ⟨⟨c,Nat.le_refl _,h.hnf.ech,h.hnf.red,fun a h1 h2=>by omega⟩,fun x=>⟨SpanL.sub fun a ha=>?_,SpanL.sub fun a ha=>?_⟩⟩
 ·obtain ⟨X,hX⟩:=h.hnf.span h.sp
  exact ⟨X a,fun b hb=>hX a ha b hb⟩
 ·obtain ⟨X,hX⟩:=h.sp'
  exact ⟨X a,fun b hb=>hX a (by have:=h.hnf.le; omega) b hb⟩
theorem sumN_drop {r R : Nat} (hr : r<=R) {f : Nat->Int} (h : ∀t,t < r->f t = 0) : sumN R f = sumN (R - r) fun a=>f (r + a):=by
 obtain ⟨d,rfl⟩:=Nat.exists_eq_add_of_le hr
 rw [Nat.add_sub_cancel_left]
 clear hr
 induction d with
 | zero=>exact sumN_zero h
 | succ d ih=>show sumN (r + d) f + f (r + d) = _; rw [ih]; rfl
theorem no_det {r : Nat} {F : Nat->Nat->Int} {w : Nat->Int} (hd : det r F ≠ 0) (h : ∀b,b < r->(sumN r fun t=>w t * F t b) = 0) : ∀j,j < r->w j = 0:=fun j hj=>by
 have e1 : det r (setr F j fun b=>sumN r fun t=>w t * F t b) = 0:=det_row_zero hj fun b hb=>by unfold setr; rw [if_pos rfl]; exact h b hb
 rw [det_row_sum hj,sumN_one hj (fun t ht hne=>?_),setr_self] at e1
 ·rcases Int.mul_eq_zero.1 e1 with h0 | h0
  ·exact h0
  ·exact absurd h0 hd
 ·have : det r (setr F j (F t)) = 0:=by
   rcases Nat.lt_or_ge t j with h2 | h2
   ·exact det_row_eq h2 hj fun b=>by unfold setr; rw [if_pos rfl,if_neg oM]
   ·exact det_row_eq (c:=j) (d:=t) oM ht fun b=>by unfold setr; rw [if_pos rfl,if_neg oM]
  rw [this,Int.mul_zero]
theorem inv_two {n : Nat} {U V : Nat->Nat->Int} (h : ∀a,a < n->∀b,b < n->sumN n (fun t=>U a t * V t b) = idf a b) : ∀a,a < n->∀b,b < n->sumN n (fun t=>V a t * U t b) = idf a b:=by
 obtain ⟨σ,hσ,hd⟩:=det_some h
 have hV : det n V ≠ 0:=fun h0=>by
  have:=det_self (A:=V) σ (fun b=>b) hσ fun a ha=>ha
  rw [h0] at this
  exact hd (Int.zero_dvd.1 this)
 intro a ha b hb
 have:=no_det (w:=fun b=>sumN n (fun t=>V a t * U t b) - idf a b) hV (fun b' hb'=>by
  have e1 : (sumN n fun t=>(sumN n (fun s=>V a s * U s t) - idf a t) * V t b') = (sumN n fun t=>sumN n (fun s=>V a s * U s t) * V t b') + -1 * sumN n fun t=>idf a t * V t b':=by
   rw [<-sumN_mul,<-sumN_add]
   exact sumN_congr fun t _=>by rw [Int.sub_mul]; omega
  have e2 : (sumN n fun t=>sumN n (fun s=>V a s * U s t) * V t b') = V a b':=by
   have : (sumN n fun t=>sumN n (fun s=>V a s * U s t) * V t b') = sumN n fun t=>sumN n fun s=>V a s * (U s t * V t b'):=sumN_congr fun t _=>by
    rw [<-sumN_mulr]
    exact sumN_congr fun s _=>Int.mul_assoc _ _ _
   rw [this,sumN_swap]
   have : (sumN n fun s=>sumN n fun t=>V a s * (U s t * V t b')) = sumN n fun s=>V a s * idf s b':=sumN_congr fun s hs=>by rw [sumN_mul,h s hs b' hb']
   rw [this,sumN_one hb' (fun s _ hne=>by rw [show idf s b' = 0 from if_neg hne,Int.mul_zero]),show idf b' b' = 1 from if_pos rfl,Int.mul_one]
  have e3 : (sumN n fun t=>idf a t * V t b') = V a b':=by
   rw [sumN_one ha (fun s _ hne=>by rw [show idf a s = 0 from if_neg (fun e=>hne e.symm),Int.zero_mul]),show idf a a = 1 from if_pos rfl,Int.one_mul]
  show (sumN n fun t=>(sumN n (fun s=>V a s * U s t) - idf a t) * V t b') = 0
  rw [e1,e2,e3]
  omega) b hb
 omega
def cutF (r : Nat) (U : Nat->Nat->Int) : Nat->Nat->Int:=fun a b=>U (r + a) b
theorem sum_assoc {n m : Nat} (x : Nat->Int) (F : Nat->Nat->Int) (y : Nat->Int) : (sumN m fun t=>sumN n (fun s=>x s * F s t) * y t) = sumN n fun s=>x s * sumN m fun t=>F s t * y t:=by
 have : (sumN m fun t=>sumN n (fun s=>x s * F s t) * y t) = sumN m fun t=>sumN n fun s=>x s * (F s t * y t):=sumN_congr fun t _=>by
  rw [<-sumN_mulr]
  exact sumN_congr fun s _=>Int.mul_assoc _ _ _
 rw [this,sumN_swap]
 exact sumN_congr fun s _=>sumN_mul _ _ _
theorem HForm.ker {R C r : Nat} {c : Nat->Nat} {A H U V : Nat->Nat->Int} (h : HForm R C r c A H U V) (x : Nat->Int) : SpanL (R - r) R (cutF r U) x ↔ KerL R C A x:=by
 have hr:=h.hnf.le
 constructor
 ·rintro ⟨y,hy⟩ b hb
  have e : (sumN R fun a=>x a * A a b) = sumN R fun a=>sumN (R - r) (fun s=>y s * cutF r U s a) * A a b:=sumN_congr fun a ha=>by rw [hy a ha]
  rw [e,sum_assoc]
  refine sumN_zero fun s hs=>?_
  have:=h.mul (r + s) oM b hb
  rw [h.hnf.zero (r + s) oM oM b hb] at this
  rw [show (sumN R fun t=>cutF r U s t * A t b) = 0 from this.symm,Int.mul_zero]
 ·intro hx
  obtain ⟨z,hz⟩ : ∃z : Nat->Int,∀t,z t = sumN R fun s=>x s * V s t:=⟨_,fun _=>rfl⟩
  have h0 : ∀b,b < C->(sumN r fun t=>z t * H t b) = 0:=fun b hb=>by
   rw [<-sumN_ext hr (fun t h1 h2=>by rw [h.hnf.zero t h1 h2 b hb,Int.mul_zero])]
   have e : (sumN R fun t=>z t * H t b) = sumN R fun t=>sumN R (fun s=>x s * V s t) * H t b:=sumN_congr fun t _=>by rw [hz]
   rw [e,sum_assoc,<-hx b hb]
   exact sumN_congr fun s hs=>by rw [h.back s hs b hb]
  have hz0 : ∀t,t < r->z t = 0:=by
   refine fun t ht=>Classical.byContradiction fun hne=>?_
   obtain ⟨u,hu,hu1,hu2⟩:=first_nz ⟨t,ht,hne⟩
   have e1:=comb_at h.hnf.ech hu hu2
   rw [h0 _ (h.hnf.ech.lt u hu)] at e1
   rcases Int.mul_eq_zero.1 e1.symm with h3 | h3
   ·exact hu1 h3
   ·have:=h.hnf.ech.pos u hu
    omega
  refine ⟨fun a=>z (r + a),fun b hb=>?_⟩
  have e : (sumN R fun t=>z t * U t b) = x b:=by
   have e1 : (sumN R fun t=>z t * U t b) = sumN R fun t=>sumN R (fun s=>x s * V s t) * U t b:=sumN_congr fun t _=>by rw [hz]
   rw [e1,sum_assoc,sumN_one hb (fun s hs hne=>by rw [inv_two h.inv s hs b hb,show idf s b = 0 from if_neg hne,Int.mul_zero]),inv_two h.inv b hb b hb,show idf b b = 1 from if_pos rfl,Int.mul_one]
  rw [<-e,sumN_drop hr (fun t ht=>by rw [hz0 t ht,Int.zero_mul])]
  rfl
theorem sat_ker {R C m : Nat} {A K : Nat->Nat->Int} (h : HB C m K (KerL C R (trF A))) (x : Nat->Int) : KerL C m (trF K) x ↔ SatL R C A x:=by
 have hk : ∀y : Nat->Int,KerL C R (trF A) y ↔ ∀a,a < R->(sumN C fun b=>A a b * y b) = 0:=fun y=>by
  constructor <;> (intro hy a ha; rw [<-hy a ha]; exact sumN_congr fun b _=>Int.mul_comm _ _)
 constructor
 ·intro hx y hy
  obtain ⟨z,hz⟩:=(h.iff y).1 ((hk y).2 hy)
  have e : (sumN C fun b=>x b * y b) = sumN C fun b=>sumN m (fun s=>z s * K s b) * x b:=sumN_congr fun b hb=>by rw [<-hz b hb,Int.mul_comm]
  rw [e,sum_assoc]
  refine sumN_zero fun s hs=>?_
  have:=hx s hs
  rw [show (sumN C fun t=>K s t * x t) = 0 by rw [<-this]; exact sumN_congr fun t _=>Int.mul_comm _ _,Int.mul_zero]
 ·intro hx i hi
  exact hx (K i) ((hk _).1 ((h.iff _).2 (SpanL.row K hi)))
def Min1 (k R C : Nat) (A : Nat->Nat->Int) : Prop:=∃σ τ : Nat->Nat,(∀a,a < k->σ a < R)/\(∀a,a < k->τ a < C)/\det k (fun a b=>A (σ a) (τ b)) ≠ 0
theorem Min1.tr {k R C : Nat} {A : Nat->Nat->Int} (h : Min1 k R C A) : Min1 k C R (trF A):=by
 obtain ⟨σ,τ,h1,h2,h3⟩:=h
 refine ⟨τ,σ,h2,h1,fun h0=>h3 ?_⟩
 rw [<-det_trp,<-h0]
 rfl
theorem rows_le {k R q C : Nat} {F X G : Nat->Nat->Int} (h : ∀a,a < R->∀b,b < C->F a b = sumN q fun t=>X a t * G t b) (hm : Min1 k R C F) : k<=q:=by
 obtain ⟨σ,τ,hσ,hτ,hd⟩:=hm
 refine Nat.le_of_not_lt fun hlt=>hd ?_
 have h1 : (0 : Int) ∣ det k fun a b=>sumN q fun t=>X (σ a) t * G t (τ b):=det_dvd_rows (P:=fun a t=>X (σ a) t) (F:=fun t b=>G t (τ b)) fun ρ hρ=>by
  refine dvd_rows_inc (R:=q) (F:=fun t b=>G t (τ b)) (fun ρ hρ hi=>?_) ρ hρ
  have h2:=hi.le (k - 1) oM
  have h3:=hρ (k - 1) oM
  omega
 rw [det_congr (G:=fun a b=>F (σ a) (τ b)) fun a ha b hb=>(h _ (hσ a ha) _ (hτ b hb)).symm] at h1
 exact Int.zero_dvd.1 h1
theorem Min1.of_mul {k R q C : Nat} {F X G : Nat->Nat->Int} (h : ∀a,a < R->∀b,b < C->F a b = sumN q fun t=>X a t * G t b) (hm : Min1 k R C F) : Min1 k q C G:=by
 obtain ⟨σ,τ,hσ,hτ,hd⟩:=hm
 refine Classical.byContradiction fun hn=>hd ?_
 have h1 : (0 : Int) ∣ det k fun a b=>sumN q fun t=>X (σ a) t * G t (τ b):=det_dvd_rows (P:=fun a t=>X (σ a) t) (F:=fun t b=>G t (τ b)) fun ρ hρ=>by
  have : det k (fun a b=>G (ρ a) (τ b)) = 0:=Classical.byContradiction fun h0=>hn ⟨ρ,τ,hρ,hτ,h0⟩
  rw [this]
  exact Int.dvd_refl 0
 rw [det_congr (G:=fun a b=>F (σ a) (τ b)) fun a ha b hb=>(h _ (hσ a ha) _ (hτ b hb)).symm] at h1
 exact Int.zero_dvd.1 h1
theorem prodN_ne {n : Nat} {f : Nat->Int} (h : ∀i,i < n->f i ≠ 0) : prodN n f ≠ 0:=by
 induction n with
 | zero=>exact (show (1 : Int) ≠ 0 by decide)
 | succ n ih=>
  intro h0
  rcases Int.mul_eq_zero.1 (show prodN n f * f n = 0 from h0) with h1 | h1
  ·exact ih (fun i hi=>h i oM) h1
  ·exact h n oM h1
theorem Ech.min1 {C r : Nat} {c : Nat->Nat} {H : Nat->Nat->Int} (h : Ech C r c H) : Min1 r r C H:=by
 refine ⟨fun a=>a,c,fun a ha=>ha,h.lt,?_⟩
 rw [det_upper fun a ha b hb hba=>h.zero a ha _ (h.inc b a hba ha)]
 exact prodN_ne fun i hi=>by have:=h.pos i hi; omega
theorem HLat.min1 {R C r : Nat} {c : Nat->Nat} {A H : Nat->Nat->Int} (h : HLat R C r c A H) : Min1 r R C A:=by
 obtain ⟨X,hX⟩:=h.sp'
 exact Min1.of_mul (F:=H) (fun a ha b hb=>hX a (by have:=h.hnf.le; omega) b hb) h.hnf.ech.min1
theorem HLat.rank {R C r k : Nat} {c : Nat->Nat} {A H : Nat->Nat->Int} (h : HLat R C r c A H) (hm : Min1 k R C A) : k<=r:=by
 obtain ⟨X,hX⟩:=h.hnf.span h.sp
 exact rows_le hX hm
theorem HB.min1 {C m : Nat} {G : Nat->Nat->Int} {L : (Nat->Int)->Prop} (h : HB C m G L) : Min1 m m C G:=by
 obtain ⟨c,hc⟩:=h.hnf
 exact hc.ech.min1
theorem choose_rows {p q C : Nat} {F G : Nat->Nat->Int} (h : ∀a,a < p->SpanL q C G (F a)) : ∃X : Nat->Nat->Int,∀a,a < p->∀b,b < C->F a b = sumN q fun t=>X a t * G t b:=by
 have hY : ∀a,∃Y : Nat->Int,a < p->∀b,b < C->F a b = sumN q fun t=>Y t * G t b:=fun a=>by
  by_cases ha : a < p
  ·obtain ⟨Y,h⟩:=h a ha
   exact ⟨Y,fun _=>h⟩
  ·exact ⟨fun _=>0,fun h=>absurd h ha⟩
 exact ⟨fun a=>(hY a).choose,fun a ha=>(hY a).choose_spec ha⟩
theorem hker_rows {R C r m : Nat} {c : Nat->Nat} {A H U V G : Nat->Nat->Int} (h : HForm R C r c A H U V) (hb : HB R m G (KerL R C A)) : m + r = R:=by
 have hr:=h.hnf.le
 have hK : Min1 (R - r) (R - r) R (cutF r U):=by
  have h1 : ∀a,a < R - r->∀b,b < R - r->(sumN R fun t=>cutF r U a t * V t (r + b)) = idf a b:=fun a ha b hb=>by
   have:=h.inv (r + a) oM (r + b) oM
   show (sumN R fun t=>U (r + a) t * V t (r + b)) = _
   rw [this]
   unfold idf
   by_cases e : a = b
   ·rw [if_pos e,if_pos oM]
   ·rw [if_neg e,if_neg oM]
  refine Classical.byContradiction fun hn=>?_
  have h2 : (0 : Int) ∣ det (R - r) fun a b=>sumN R fun t=>cutF r U a t * V t (r + b):=det_dvd_cols (F:=cutF r U) (Q:=fun t b=>V t (r + b)) fun τ hτ=>by
   have : det (R - r) (fun a b=>cutF r U a (τ b)) = 0:=Classical.byContradiction fun h0=>hn ⟨fun a=>a,τ,fun a ha=>ha,hτ,h0⟩
   rw [this]
   exact Int.dvd_refl 0
  rw [det_congr (G:=idf) h1,det_idf] at h2
  have:=Int.zero_dvd.1 h2
  omega
 obtain ⟨X,hX⟩:=choose_rows (F:=cutF r U) (G:=G) (p:=R - r) (q:=m) (C:=R) fun a ha=>(hb.iff _).1 ((h.ker _).1 (SpanL.row _ ha))
 obtain ⟨Y,hY⟩:=choose_rows (F:=G) (G:=cutF r U) (p:=m) (q:=R - r) (C:=R) fun a ha=>(h.ker _).2 ((hb.iff _).2 (SpanL.row _ ha))
 have h1:=rows_le hX hK
 have h2:=rows_le hY hb.min1
 omega
theorem minors_succ {k R C : Nat} {A : Nat->Nat->Int} (h : ¬ Min1 k R C A) : ¬ Min1 (k + 1) (R + 1) C A:=by
 rintro ⟨σ,τ,hσ,hτ,hd⟩
 refine hd (Int.zero_dvd.1 ?_)
 have h0 : ∀σ τ : Nat->Nat,(∀a,a < k->σ a < R)->(∀a,a < k->τ a < C)->det k (fun a b=>A (σ a) (τ b)) = 0:=fun σ τ h1 h2=>Classical.byContradiction fun h3=>h ⟨σ,τ,h1,h2,h3⟩
 refine dvd_rows_inc (R:=R + 1) (F:=fun a b=>A a (τ b)) (fun σ hσ hi=>?_) σ hσ
 have hlow : ∀a,a < k->σ a < R:=fun a ha=>by
  have h1:=hi.lt a k ha oM
  have h2:=hσ k oM
  omega
 obtain ⟨q,hq0,hq1⟩ : ∃q : Nat->Nat,q 0 = σ k/\∀a,q (a + 1) = σ a:=⟨fun a=>if a = 0 then σ k else σ (a - 1),rfl,fun a=>rfl⟩
 have e1 : det (k + 1) (fun a b=>A (q a) (τ b)) = 0:=by
  rw [det_succ]
  refine sumN_zero fun j hj=>?_
  have : det k (mnr (fun a b=>A (q a) (τ b)) 0 j) = 0:=by
   have:=h0 σ (fun b=>τ (sk j b)) hlow fun b hb=>hτ _ (sk_lt hb)
   rw [<-this]
   exact det_congr fun a _ b _=>by
    show A (q (sk 0 a)) (τ (sk j b)) = _
    rw [sk_zero,hq1]
  rw [this,Int.mul_zero,Int.mul_zero]
 have e2:=det_self (n:=k + 1) (A:=fun a b=>A (q a) (τ b)) (fun a=>if a = k then 0 else a + 1) (fun b=>b) (fun a ha=>by split <;> omega) fun b hb=>hb
 rw [e1] at e2
 rw [show det (k + 1) (fun a b=>A (σ a) (τ b)) = det (k + 1) (fun a b=>A (q (if a = k then 0 else a + 1)) (τ b)) from det_congr fun a ha b hb=>by
  by_cases e : a = k
  ·rw [if_pos e,hq0,e]
  ·rw [if_neg e,hq1]]
 exact e2
theorem Min1.down {k R C : Nat} {A : Nat->Nat->Int} (h : Min1 (k + 1) R C A) : Min1 k R C A:=Classical.byContradiction fun hn=>by
 refine minors_succ hn ?_
 obtain ⟨σ,τ,a,b,c⟩:=h
 exact ⟨σ,τ,fun i hi=>by have:=a i hi; omega,b,c⟩
theorem sumN_ite {n c : Nat} (hc : c < n) (x : Int) (f : Nat->Int) : (sumN n fun s=>(if c = s then x else 0) * f s) = x * f c:=by
 rw [sumN_one hc (fun i _ hne=>by rw [if_neg (fun e=>hne e.symm),Int.zero_mul]),if_pos rfl]
theorem sat_hb {R C k m : Nat} {A K S : Nat->Nat->Int} (hK : HB C k K (KerL C R (trF A))) (hS : HB C m S (KerL C k (trF K))) : HB C m S (SatL R C A):=hS.of (sat_ker hK)
theorem SatL.self {R C a : Nat} {A : Nat->Nat->Int} (ha : a < R) : SatL R C A (A a):=fun _ hy=>hy a ha
theorem SatL.same {R R' C : Nat} {A B : Nat->Nat->Int} (h1 : ∀a,a < R->SatL R' C B (A a)) (h2 : ∀a,a < R'->SatL R C A (B a)) (x : Nat->Int) : SatL R C A x ↔ SatL R' C B x:=
 ⟨fun h y hy=>h y fun a ha=>h1 a ha y hy,fun h y hy=>h y fun a ha=>h2 a ha y hy⟩
theorem idf_mul {n C : Nat} (A : Nat->Nat->Int) : ∀a,a < n->∀b,b < C->A a b = sumN n fun t=>idf a t * A t b:=fun a ha b _=>by
 rw [sumN_one ha (fun i _ hne=>by rw [show idf a i = 0 from if_neg (fun e=>hne e.symm),Int.zero_mul]),show idf a a = 1 from if_pos rfl,Int.one_mul]
theorem Min1.le {k R C : Nat} {A : Nat->Nat->Int} (h : Min1 k R C A) : k<=R:=rows_le (idf_mul (n:=R) (C:=C) A) h
structure Prim (R C : Nat) (A : Nat->Nat->Int) : Prop where
 sat : ∀x,SatL R C A x->SpanL R C A x
 full : Min1 R R C A
theorem RowsV.cut {w : World} {b n cap : Nat} {M : List (List Int)} (h : RowsV w (.slice (some ⟨b,0,none⟩) n cap) M) {f t : Nat} (hf : f<=t) (ht : t<=n) (a : Option Addr) (ha : f < t->a = some ⟨b,f,none⟩) (c : Nat) (hc : t - f<=c) (hc2 : c<=cap) : RowsW w (.slice a (t - f) c) ((M.take t).drop f):=by
 obtain ⟨ao,n',cap',e,h2,h3,h4,h5⟩:=h
 injection e with e1 e2 e3
 subst e2
 subst e3
 subst e1
 refine ⟨a,t - f,c,rfl,by rw [List.length_drop,List.length_take]; omega,hc,by omega,fun hn=>?_⟩
 have hft : f < t:=Nat.lt_of_not_le fun hle=>hn (List.drop_eq_nil_of_le (by rw [List.length_take]; omega))
 obtain ⟨b',cs,k1,k2,k3⟩:=h5 (by rintro rfl; simp at hn)
 injection k1 with k1
 injection k1 with k1
 subst k1
 refine ⟨b,f,cs,ha hft,k2,fun k zs hk=>?_⟩
 have hkl:=(List.getElem?_eq_some_iff.1 hk).1
 rw [List.length_drop,List.length_take] at hkl
 rw [List.getElem?_drop,List.getElem?_take_of_lt oM] at hk
 exact k3 _ _ hk
theorem vec_old {w w' : World} {v : Value} {zs : List Int} (h : VecV w v zs) (e : ∀b,RowAt w b zs->w'.heap[b]? = w.heap[b]?) (x : LExt w w') : VecV w' v zs:=by
 obtain ⟨ao,n,cap,h1,h2,h3,h4,h5⟩:=h
 exact ⟨ao,n,cap,h1,h2,h3,h4,fun hn=>(h5 hn).elim fun b h=>⟨b,h.1,h.2.old (e b h.2) x⟩⟩
theorem RowsW.offw {w w' : World} {v : Value} {M : List (List Int)} {g : Nat} {T : TypeId} {cs : Array Value} (h : RowsW w v M) (hg : Blk w g T cs) (h1 : T ≠ tR) (h2 : T ≠ tI) (ho : ∀b,b ≠ g->w'.heap[b]? = w.heap[b]?) (hx : LExt w w') : RowsW w' v M:=by
 obtain ⟨ao,n,cap,e1,e2,e3,e4,e5⟩:=h
 refine ⟨ao,n,cap,e1,e2,e3,e4,fun hn=>?_⟩
 obtain ⟨b,o,cs',q1,q2,q3⟩:=e5 hn
 have hne : ∀{c : Nat} {U : TypeId} {ds : Array Value},w.heap[c]? = some (.cells ds U (0,0))->T ≠ U->c ≠ g:=by
  intro c U ds hc hT hh
  subst hh
  have hg' : w.heap[c]? = some (.cells cs T (0,0)):=hg
  rw [hg'] at hc
  injection hc with hc
  injection hc with _ ht
  exact hT ht
 refine ⟨b,o,cs',q1,(ho b (hne q2 h1)).trans q2,fun k zs hk=>?_⟩
 obtain ⟨rv,r1,r2⟩:=q3 k zs hk
 exact ⟨rv,r1,vec_old r2 (fun b' hr=>by obtain ⟨c2,s2,-⟩:=hr; exact ho b' (hne s2 h2)) hx⟩
theorem MatW.keep3 {w : World} {v : Value} {R C : Int} {M : List (List Int)} {b : Nat} {cs : Array Value} (h : MatW w v R C M) (hb : Blk w b 41 cs) (x y z : Value) : MatW (((w.setCell ⟨b,0,none⟩ x).setCell ⟨b,1,none⟩ y).setCell ⟨b,2,none⟩ z) v R C M:=by
 obtain ⟨A,rfl,h⟩:=h
 exact ⟨A,rfl,h.offw hb dE dE (fun k hk=>set3_old _ _ k _ _ _ hk) (hb.lext3 dE _ _ _)⟩
theorem RowsW.nil (w : World) (a : Option Addr) : RowsW w (.slice a 0 0) []:=⟨a,0,0,rfl,rfl,Nat.le_refl _,by omega,fun h=>absurd rfl h⟩
def pivL (κ : Nat->Nat) (m : Nat) : List (Nat × Nat):=(List.range m).map fun k=>(k,κ k)
section
variable {ex : Nat->Nat} {B r n Cs Ct M0 p : Nat} {x0 : Bst} {κ : Nat->Nat}
def PJ (ex : Nat->Nat) (r n Cs Ct M0 p : Nat) (κ : Nat->Nat) (x0 : Bst) (m : Nat) (x : Bst) (L : List (Nat × Nat)) : Prop:=(m < p/\x = x0/\L = pivL κ m) ∨ (p<=m/\JH ex r n Cs Ct M0 x0 m x L)
def PJ' (ex : Nat->Nat) (r n Cs Ct M0 p : Nat) (κ : Nat->Nat) (x0 : Bst) (m : Nat) (x : Bst) (L : List (Nat × Nat)) : Prop:=(m < p/\x = x0/\L = pivL κ (m + 1)) ∨ (p<=m/\JH' ex r n Cs Ct M0 x0 m x L)
end
def esp (r p m : Nat) : Nat:=esr r m - esr r p
set_option maxHeartbeats 16000000 in
set_option maxRecDepth 20000 in
theorem r12neg_any (bw : Nat) (AM AU AV : Value) (R C i : Nat) (bm bu bv : List Nat) (x : Bst) (w : World) (h : K9 w bw AM AU AV R C bm bu bv x.s x.t (fun a b=>x.i b a)) (hi : i < R) (hR : R<=1000000) (hC : C<=1000000)
  (hS : ∀t,t < C->Sm (x.s i t)) (hT : ∀t,t < R->Sm (x.t i t)) (hV : ∀t,t < R->Sm (x.i i t)) :
  Calls Tryz.prog 142 #[.pointer (some ⟨bw,0,none⟩),.int .i64 i] w fun e w'=>(∃u,e = .returned u)/\OnlyZ (Z3 AM AU AV bm bu bv) w w'/\K9 w' bw AM AU AV R C bm bu bv (x.neg i).s (x.neg i).t (fun a b=>(x.neg i).i b a):=by
 have HSM:=HidS.mk hS
 have HSU:=HidS.mk hT
 have HSV:=HidS.mk hV
 obtain ⟨gm,cm,rfl⟩:=h.m.base oM
 obtain ⟨gu,cu,rfl⟩:=h.u.base oM
 obtain ⟨gv,cv,rfl⟩:=h.v.base oM
 obtain ⟨bMi,hbmi⟩:=h.m.bex hi
 obtain ⟨bUi,hbui⟩:=h.u.bex hi
 have hzl:=fun b hb=>h.zlt (b:=b) hb
 clear hS hT hV
 go_enter Tryz.func142,Tryz.ntmps142
 have hK:=h
 have hO:=OnlyZ.refl (Z3 (.slice (some ⟨gm,0,none⟩) R cm) (.slice (some ⟨gu,0,none⟩) R cu) (.slice (some ⟨gv,0,none⟩) R cv) bm bu bv) w
 clear h
 go_wp2
 go_loopw [4] (fun jv wr=>∃c : Nat,c<=C/\jv = .int .i64 c/\OnlyZ (Z3 (.slice (some ⟨gm,0,none⟩) R cm) (.slice (some ⟨gu,0,none⟩) R cu) (.slice (some ⟨gv,0,none⟩) R cv) bm bu bv) w wr/\K9 wr bw (.slice (some ⟨gm,0,none⟩) R cm) (.slice (some ⟨gu,0,none⟩) R cu) (.slice (some ⟨gv,0,none⟩) R cv) R C bm bu bv (upR x.s (x.neg i).s i c) x.t (fun a b=>x.i b a)) (fun jv _=>C - (intOf jv).toNat)
 case atStart=>exact ⟨0,by omega,rfl,hO,by rw [upR_zero]; exact hK⟩
 case round=>
  clear hK hO
  obtain ⟨c,hc,rfl,hO,hK⟩:=hrel
  obtain ⟨q0,q1,q2,q3,q4,q5,q6,q7,q8⟩:=hK.blk.nine
  have lbw:=hK.blk.lt
  by_cases hlt : c < C
  ·have lg:=hK.zlt (b:=gm) (.inl (.inr rfl))
   have lb:=hK.zlt (b:=bMi) (.inl (.inl (List.mem_of_getElem? hbmi)))
   have o1:=hK.m.rowc hi hbmi
   obtain ⟨xs,xa,xl,xc,p1,p2,-,-,hx⟩:=hK.m.elem hi hbmi hlt
   rw [upR_at] at hx
   have T1:=HidS.mk (HSM.out c hlt)
   go_upto_region 3 with (fail)
   refine wp_serH 22 [pcI 20 (-(x.s i c))] ?_
   refine sRd ?_
   refine sRc (fun wS hI Gk hG=>by go_simp; exact ck hG (r1neg_any _ (x.s i c) _ (hx.ext hI.lext).weak T1.out)) (fun va20 _=>?_)
   refine sRd ?_
   refine sRe ?_
   intro w9 hbw9 ha20
   have hlw9:=lx hbw9
   have holdw9:=hbw9.block
   obtain ⟨pn,pa,pl,pc,px,rfl,hpx⟩:=id ha20
   have HPX:=Lib.hid hpx
   clear hpx
   have hK9:=hK.below hbw9
   obtain ⟨sn,sa,sl,sc,y1,y2,y3,y4,-⟩:=hK9.m.elem hi hbmi hlt
   obtain ⟨hP,hOP⟩:=hK9.putM hi hbmi hlt ha20
   rw [upR_put (by show _ = negF x.s i i c; unfold negF; rw [if_pos rfl])] at hP
   have hO9:=hO.trans (OnlyZ.of _ hbw9)
   have hZ : Z3 (.slice (some ⟨gm,0,none⟩) R cm) (.slice (some ⟨gu,0,none⟩) R cu) (.slice (some ⟨gv,0,none⟩) R cv) bm bu bv bMi:=.inl (.inl (List.mem_of_getElem? hbmi))
   clear o1 p1 p2
   go_wp2
   go_roundw
   case rel=>exact ⟨c + 1,by omega,by simp,hO9.trans (hOP.mono fun k _ hk=>by rw [hk]; exact hZ),hP⟩
   case measure=>simp [intOf]; omega
  ·have hcC : c = C:=by omega
   replace hK : K9 wr bw (.slice (some ⟨gm,0,none⟩) R cm) (.slice (some ⟨gu,0,none⟩) R cu) (.slice (some ⟨gv,0,none⟩) R cv) R C bm bu bv (x.neg i).s x.t (fun a b=>x.i b a):=hK.congr (fun a _ b hb=>by
      show upR _ _ i c a b = _
      unfold upR
      by_cases h1 : a = i
      ·rw [if_pos ⟨h1,by omega⟩]
      ·rw [if_neg (fun h=>h1 h.1)]
       show _ = negF x.s i a b
       unfold negF; rw [if_neg h1]) (fun _ _ _ _=>rfl) (fun _ _ _ _=>rfl)
   clear hcC
   go_wp2
   go_loopw [5] (fun jv wr=>∃c : Nat,c<=R/\jv = .int .i64 c/\OnlyZ (Z3 (.slice (some ⟨gm,0,none⟩) R cm) (.slice (some ⟨gu,0,none⟩) R cu) (.slice (some ⟨gv,0,none⟩) R cv) bm bu bv) w wr/\K9 wr bw (.slice (some ⟨gm,0,none⟩) R cm) (.slice (some ⟨gu,0,none⟩) R cu) (.slice (some ⟨gv,0,none⟩) R cv) R C bm bu bv (x.neg i).s (upR x.t (x.neg i).t i c) (fun a b=>x.i b a)) (fun jv _=>R - (intOf jv).toNat)
   case atStart=>exact ⟨0,by omega,rfl,hO,by rw [upR_zero]; exact hK⟩
   case round=>
    clear hK hO
    obtain ⟨c,hc,rfl,hO,hK⟩:=hrel
    obtain ⟨q0,q1,q2,q3,q4,q5,q6,q7,q8⟩:=hK.blk.nine
    have lbw:=hK.blk.lt
    by_cases hlt : c < R
    ·have lg:=hK.zlt (b:=gu) (.inr (.inl (.inr rfl)))
     have lb:=hK.zlt (b:=bUi) (.inr (.inl (.inl (List.mem_of_getElem? hbui))))
     have o1:=hK.u.rowc hi hbui
     obtain ⟨xs,xa,xl,xc,p1,p2,-,-,hx⟩:=hK.u.elem hi hbui hlt
     rw [upR_at] at hx
     have T1:=HidS.mk (HSU.out c hlt)
     go_upto_region 7 with (fail)
     refine wp_serH 22 [pcI 20 (-(x.t i c))] ?_
     refine sRd ?_
     refine sRc (fun wS hI Gk hG=>by go_simp; exact ck hG (r1neg_any _ (x.t i c) _ (hx.ext hI.lext).weak T1.out)) (fun va20 _=>?_)
     refine sRd ?_
     refine sRe ?_
     intro w9 hbw9 ha20
     have hlw9:=lx hbw9
     have holdw9:=hbw9.block
     obtain ⟨pn,pa,pl,pc,px,rfl,hpx⟩:=id ha20
     have HPX:=Lib.hid hpx
     clear hpx
     have hK9:=hK.below hbw9
     obtain ⟨sn,sa,sl,sc,y1,y2,y3,y4,-⟩:=hK9.u.elem hi hbui hlt
     obtain ⟨hP,hOP⟩:=hK9.putU hi hbui hlt ha20
     rw [upR_put (by show _ = negF x.t i i c; unfold negF; rw [if_pos rfl])] at hP
     have hO9:=hO.trans (OnlyZ.of _ hbw9)
     have hZ : Z3 (.slice (some ⟨gm,0,none⟩) R cm) (.slice (some ⟨gu,0,none⟩) R cu) (.slice (some ⟨gv,0,none⟩) R cv) bm bu bv bUi:=.inr (.inl (.inl (List.mem_of_getElem? hbui)))
     clear o1 p1 p2
     go_wp2
     go_roundw
     case rel=>exact ⟨c + 1,by omega,by simp,hO9.trans (hOP.mono fun k _ hk=>by rw [hk]; exact hZ),hP⟩
     case measure=>simp [intOf]; omega
    ·have hcC : c = R:=by omega
     replace hK : K9 wr bw (.slice (some ⟨gm,0,none⟩) R cm) (.slice (some ⟨gu,0,none⟩) R cu) (.slice (some ⟨gv,0,none⟩) R cv) R C bm bu bv (x.neg i).s (x.neg i).t (fun a b=>x.i b a):=hK.congr (fun _ _ _ _=>rfl) (fun a _ b hb=>by
        show upR _ _ i c a b = _
        unfold upR
        by_cases h1 : a = i
        ·rw [if_pos ⟨h1,by omega⟩]
        ·rw [if_neg (fun h=>h1 h.1)]
         show _ = negF x.t i a b
         unfold negF; rw [if_neg h1]) (fun _ _ _ _=>rfl)
     clear hcC
     go_wp2
     go_loopw [6] (fun jv wr=>∃c : Nat,c<=R/\jv = .int .i64 c/\OnlyZ (Z3 (.slice (some ⟨gm,0,none⟩) R cm) (.slice (some ⟨gu,0,none⟩) R cu) (.slice (some ⟨gv,0,none⟩) R cv) bm bu bv) w wr/\K9 wr bw (.slice (some ⟨gm,0,none⟩) R cm) (.slice (some ⟨gu,0,none⟩) R cu) (.slice (some ⟨gv,0,none⟩) R cv) R C bm bu bv (x.neg i).s (x.neg i).t (upC (fun a b=>x.i b a) (fun a b=>(x.neg i).i b a) i c)) (fun jv _=>R - (intOf jv).toNat)
     case atStart=>exact ⟨0,by omega,rfl,hO,by rw [upC_zero]; exact hK⟩
     case round=>
      clear hK hO
      obtain ⟨c,hc,rfl,hO,hK⟩:=hrel
      obtain ⟨q0,q1,q2,q3,q4,q5,q6,q7,q8⟩:=hK.blk.nine
      have lbw:=hK.blk.lt
      by_cases hlt : c < R
      ·have lg:=hK.zlt (b:=gv) (.inr (.inr (.inr rfl)))
       obtain ⟨bVr,hbvr⟩:=hK.v.bex hlt
       have lb:=hK.zlt (b:=bVr) (.inr (.inr (.inl (List.mem_of_getElem? hbvr))))
       have o1:=hK.v.rowc hlt hbvr
       obtain ⟨xs,xa,xl,xc,p1,p2,-,-,hx⟩:=hK.v.elem hlt hbvr hi
       rw [upC_at] at hx
       have T1:=HidS.mk (HSV.out c hlt)
       go_upto_region 11 with (fail)
       refine wp_serH 22 [pcI 20 (-(x.i i c))] ?_
       refine sRd ?_
       refine sRc (fun wS hI Gk hG=>by go_simp; exact ck hG (r1neg_any _ (x.i i c) _ (hx.ext hI.lext).weak T1.out)) (fun va20 _=>?_)
       refine sRd ?_
       refine sRe ?_
       intro w9 hbw9 ha20
       have hlw9:=lx hbw9
       have holdw9:=hbw9.block
       obtain ⟨pn,pa,pl,pc,px,rfl,hpx⟩:=id ha20
       have HPX:=Lib.hid hpx
       clear hpx
       have hK9:=hK.below hbw9
       obtain ⟨sn,sa,sl,sc,y1,y2,y3,y4,-⟩:=hK9.v.elem hlt hbvr hi
       obtain ⟨hP,hOP⟩:=hK9.putV hlt hbvr hi ha20
       rw [upC_put (by show _ = negF x.i i i c; unfold negF; rw [if_pos rfl])] at hP
       have hO9:=hO.trans (OnlyZ.of _ hbw9)
       have hZ : Z3 (.slice (some ⟨gm,0,none⟩) R cm) (.slice (some ⟨gu,0,none⟩) R cu) (.slice (some ⟨gv,0,none⟩) R cv) bm bu bv bVr:=.inr (.inr (.inl (List.mem_of_getElem? hbvr)))
       clear o1 p1 p2
       go_wp2
       go_roundw
       case rel=>exact ⟨c + 1,by omega,by simp,hO9.trans (hOP.mono fun k _ hk=>by rw [hk]; exact hZ),hP⟩
       case measure=>simp [intOf]; omega
      ·have hcC : c = R:=by omega
       replace hK : K9 wr bw (.slice (some ⟨gm,0,none⟩) R cm) (.slice (some ⟨gu,0,none⟩) R cu) (.slice (some ⟨gv,0,none⟩) R cv) R C bm bu bv (x.neg i).s (x.neg i).t (fun a b=>(x.neg i).i b a):=hK.congr (fun _ _ _ _=>rfl) (fun _ _ _ _=>rfl) (fun a ha b _=>by
          show upC _ _ i c a b = _
          unfold upC
          by_cases h1 : b = i
          ·rw [if_pos ⟨h1,by omega⟩]
          ·rw [if_neg (fun h=>h1 h.1)]
           show _ = negF x.i i b a
           unfold negF; rw [if_neg h1])
       clear hcC
       go_wp2
       exact bodyPost_end (results_none rfl _ _ _) rfl ⟨⟨_,rfl⟩,hO,hK⟩
set_option maxHeartbeats 2000000 in
set_option maxRecDepth 20000 in
theorem pivot_any (v : Value) (zs : List Int) (w : World) (h : VecV w v zs) :
  Calls Tryz.prog 144 #[v] w fun e w'=>e = .returned (.int .i64 (leadGo 0 zs))/\Below w.heap.size w w':=by
 obtain ⟨ao,n,cap,rfl,h2,h3,h4,h5⟩:=id h
 have HL:=Lib.hid h2
 clear h2 h5
 go_enter Tryz.func144,Tryz.ntmps144
 go_wp2
 go_loopw [3] (fun i wr=>∃k : Nat,k<=n/\i = .int .i64 k/\Below w.heap.size w wr/\Hid (leadGo 0 zs = leadGo k (zs.drop k))) (fun i _=>n - (intOf i).toNat)
 case atStart=>exact ⟨0,by omega,rfl,Below.refl _ _,by rw [List.drop_zero]; exact Lib.hid rfl⟩
 case round=>
  obtain ⟨k,hk,rfl,hb,hgo⟩:=hrel
  by_cases hlt : k < n
  ·obtain ⟨b,z,s,a,l,c,rfl,hbl,hz,c1,c2,hv⟩:=(h.below hb).cell (k:=k) (by rw [HL.out]; exact hlt)
   have HZ:=Lib.hid hz
   clear hz
   go_wp2_with fail
   refine (r1sign_any _ z wr hv).mono ?_
   rintro e w7 ⟨rfl,hb7⟩
   have hb9:=nx hb hb7
   by_cases hz0 : z = 0
   ·rw [cmpI_zero hz0]
    go_wp2
    go_roundw
    case rel=>
     refine ⟨k + 1,by omega,by simp,hb9,Lib.hid ?_⟩
     rw [hgo.out,drop_cons HZ.out]
     conv=>lhs; unfold leadGo
     rw [if_neg (by simp [hz0])]
    case measure=>simp [intOf]; omega
   ·have hc:=cmpI_ne hz0
    obtain ⟨k0,hk0⟩ : ∃k0,cmpI z 0 = k0:=⟨_,rfl⟩
    rw [hk0] at hc ⊢
    have hc2 : (k0 != 0) = true:=by simpa using hc
    go_wp2
    go_ret
    refine ⟨?_,hb9⟩
    rw [hgo.out,drop_cons HZ.out]
    conv=>rhs; unfold leadGo
    rw [if_pos hz0]
    rfl
  ·obtain rfl : k = n:=by omega
   go_wp2
   go_ret
   refine ⟨?_,hb⟩
   rw [hgo.out,List.drop_eq_nil_of_le (Nat.le_of_eq HL.out)]
   rfl
structure IsInv2 (C : Nat) (F : Nat->Nat->Int) (i : Nat) (last : Int) : Prop where
 ok : ∀k,k < i->rowOk C F k
 lst : ∀c : Nat,c < C->(last < c ↔ ∀k,k < i->0<=lead C F k/\lead C F k < c)
theorem IsInv2.start (C : Nat) (F : Nat->Nat->Int) : IsInv2 C F 0 (-1):=
 ⟨fun k hk=>by omega,fun c hc=>⟨fun _ k hk=>by omega,fun _=>by omega⟩⟩
theorem IsInv2.zero {C : Nat} {F : Nat->Nat->Int} {i : Nat} {last : Int} (h : IsInv2 C F i last) (hl : lead C F i < 0) : IsInv2 C F (i + 1) C:=
 ⟨fun k hk=>by
  by_cases e : k = i
  ·rw [e]; exact .inl hl
  ·exact h.ok k oM,fun c hc=>⟨fun h=>by omega,fun h=>by have:=h i oM; omega⟩⟩
theorem IsInv2.row {C : Nat} {F : Nat->Nat->Int} {i c : Nat} {last : Int} (h : IsInv2 C F i last) (hl : lead C F i = (c : Int)) :
  rowOk C F i ↔ last < c/\0 < F i c/\∀k,k < i->0<=F k c/\F k c < F i c:=by
 have hz:=lead_lt' hl
 constructor
 ·rintro (h1 | ⟨c',h1,h2,h3,h4⟩)
  ·omega
  ·obtain rfl : c' = c:=by omega
   exact ⟨(h.lst c' hz.1).2 h2,h3,h4⟩
 ·rintro ⟨h2,h3,h4⟩
  exact .inr ⟨c,hl,(h.lst c hz.1).1 h2,h3,h4⟩
theorem IsInv2.step {C : Nat} {F : Nat->Nat->Int} {i c : Nat} {last : Int} (h : IsInv2 C F i last) (hl : lead C F i = (c : Int)) (hr : rowOk C F i) : IsInv2 C F (i + 1) c:=by
 refine ⟨fun k hk=>?_,fun d hd=>⟨fun hlt k hk=>?_,fun hk=>by have:=(hk i oM).2; omega⟩⟩
 ·by_cases e : k = i
  ·rw [e]; exact hr
  ·exact h.ok k oM
 ·by_cases e : k = i
  ·rw [e]; omega
  ·rcases hr with h1 | ⟨c',h1,h2,-⟩
   ·omega
   ·have:=h2 k oM; omega

def quo (C : Nat) (F : Nat->Nat->Int) (r : Nat->Int) (i : Nat) : Int:=if lead C F i < 0 then 0 else r (lead C F i).toNat / F i (lead C F i).toNat
def redR (C : Nat) (F : Nat->Nat->Int) (x : Nat->Int) : Nat->Nat->Int
 | 0=>x
 | i + 1=>fun t=>redR C F x i t + -(quo C F (redR C F x i) i) * F i t
def redQ (C : Nat) (F : Nat->Nat->Int) (x : Nat->Int) (i : Nat) : Int:=quo C F (redR C F x i) i
structure okRd (B R C : Nat) (F : Nat->Nat->Int) (x : Nat->Int) : Prop where
 mat : okF B R C F
 rest : ∀i,i<=R->∀t,t < C->(redR C F x i t).natAbs < B
 quot : ∀i,i < R->(redQ C F x i).natAbs < B/\∀t,t < C->(-(redQ C F x i) * F i t).natAbs < B
def ZRow (lo n : Nat) : World->Value->Prop:=fun w v=>∃b,v = .slice (some ⟨b,0,none⟩) n n/\lo<=b/\RowAt w b (genV n fun _=>0)
def FarS (u v : Value) : Prop:=∀a b n m c d,u = .slice (some ⟨a,0,none⟩) n c->v = .slice (some ⟨b,0,none⟩) m d->a ≠ b
def putI (a b : Nat) (T : Array Value) (w : World) : World:=
 match T[a]?,T[b]? with
 | some (.pointer (some ⟨g,o,none⟩)),some (.agg #[x,y])=>(w.setCell ⟨g,o,none⟩ x).setCell ⟨g,o + 1,none⟩ y
 | _,_=>w
def RetRed (R C : Nat) (q r : Nat->Int) (w : World) (e : Ending) (w' : World) : Prop:=∃qv rv,e = .returned (.tuple #[qv,rv,.int .i64 0])/\VecV w' qv (genV R q)/\VecV w' rv (genV C r)/\Below w.heap.size w w'
theorem fact_le7 {k : Nat} (hk : k<=7) : factN k<=5040:=by
 rcases (by omega : k = 0 ∨ k = 1 ∨ k = 2 ∨ k = 3 ∨ k = 4 ∨ k = 5 ∨ k = 6 ∨ k = 7) with rfl | rfl | rfl | rfl | rfl | rfl | rfl | rfl <;> decide
theorem det_le7 {k h : Nat} {F : Nat->Nat->Int} (hk : k<=7) (h1 : 1<=h) (hF : ∀a,a < k->∀b,b < k->(F a b).natAbs<=h) : (det k F).natAbs<=5040 * h ^ 7:=
 Nat.le_trans (det_natAbs hF) (Nat.mul_le_mul (fact_le7 hk) (le_pow2 h1 hk))
theorem hnf_bound7 {R C r h : Nat} {c σ : Nat->Nat} {A H X : Nat->Nat->Int} (hr4 : r<=7) (h1 : 1<=h) (hE : Ech C r c H) (hred : RedOn (fun _ _=>True) r c H) (hA : leM h R C A) (hback2 : ∀a,a < R->∀b,b < C->A a b = sumN r fun t=>X t a * H t b)
  (hσ : ∀a,a < r->σ a < R) (hdet : det r (fun a b=>X b (σ a)) ≠ 0) : leM (5040 * (64 * h) ^ 7) r C H:=by
 have hpivz : ∀j,j < r->∀t,j < t->t < r->H t (c j) = 0:=fun j hj t h2 h3=>hE.zero t h3 _ (hE.inc j t h2 h3)
 have hV : ∀j,j < r->∀a,a < R->(X j a).natAbs<=h * 2 ^ j:=by
  intro j
  induction j using Nat.strongRecOn with
  | ind j ih=>
   intro hj a ha
   have e:=hback2 a ha (c j) (hE.lt j hj)
   have hp:=hE.pos j hj
   rw [sumN_ext (n:=j + 1) oM (fun t h2 h3=>by rw [hpivz j hj t oM h3,Int.mul_zero])] at e
   have hs : sumN (j + 1) (fun t=>X t a * H t (c j)) = sumN j (fun t=>X t a * H t (c j)) + X j a * H j (c j):=rfl
   rw [hs] at e
   obtain ⟨p,hpp⟩ : ∃p : Nat,H j (c j) = (p : Int):=⟨(H j (c j)).toNat,by omega⟩
   have hsum : ∀m,m<=j->(sumN m (fun t=>X t a * H t (c j))).natAbs<=(h * 2 ^ m - h) * p:=by
    intro m
    induction m with
    | zero=>intro _; simp [sumN]
    | succ m ihm=>
     intro hm
     have g1:=ihm oM
     have g2:=ih m oM oM a ha
     have g3:=hred m j oM hj trivial
     have g4 : (H m (c j)).natAbs<=p:=by omega
     have g5 : (X m a * H m (c j)).natAbs<=h * 2 ^ m * p:=by rw [Int.natAbs_mul]; exact Nat.mul_le_mul g2 g4
     have g6 : (sumN (m + 1) (fun t=>X t a * H t (c j))).natAbs<=(sumN m (fun t=>X t a * H t (c j))).natAbs + (X m a * H m (c j)).natAbs:=by
      show (sumN m (fun t=>X t a * H t (c j)) + X m a * H m (c j)).natAbs<=_
      omega
     have g7 : (h * 2 ^ m - h) * p + h * 2 ^ m * p = (h * 2 ^ (m + 1) - h) * p:=by
      rw [<-Nat.add_mul]
      congr 1
      have : h<=h * 2 ^ m:=Nat.le_mul_of_pos_right _ (Nat.pow_pos oM)
      rw [Nat.pow_succ,<-Nat.mul_assoc]
      omega
     omega
   have g1:=hsum j (Nat.le_refl _)
   have g2:=hA a ha (c j) (hE.lt j hj)
   have g3 : (X j a * H j (c j)).natAbs<=h + (h * 2 ^ j - h) * p:=by omega
   rw [Int.natAbs_mul,hpp,Int.natAbs_natCast] at g3
   have g4 : h<=h * p:=Nat.le_mul_of_pos_right _ oM
   have g5 : h * p + (h * 2 ^ j - h) * p = h * 2 ^ j * p:=by
    rw [<-Nat.add_mul]
    congr 1
    have : h<=h * 2 ^ j:=Nat.le_mul_of_pos_right _ (Nat.pow_pos oM)
    omega
   have g6 : (X j a).natAbs * p<=h * 2 ^ j * p:=by omega
   exact Nat.le_of_mul_le_mul_right g6 oM
 have hV8 : ∀j,j < r->∀a,a < R->(X j a).natAbs<=64 * h:=fun j hj a ha=>by
  have g1:=hV j hj a ha
  have g2 : 2 ^ j<=2 ^ 6:=Nat.pow_le_pow_right oM oM
  have g3 : h * 2 ^ j<=h * 2 ^ 6:=Nat.mul_le_mul_left _ g2
  omega
 intro i hir b hb
 have e1 : det r (setc (fun a b=>X b (σ a)) i fun a=>A (σ a) b) = H i b * det r (fun a b=>X b (σ a)):=by
  have e2 : det r (setc (fun a b=>X b (σ a)) i fun a=>A (σ a) b) = det r (setc (fun a b=>X b (σ a)) i fun a=>sumN r fun t=>H t b * X t (σ a)):=det_congr fun a ha b' hb'=>by
   unfold setc
   split
   ·dsimp only
    rw [hback2 _ (hσ a ha) b hb]
    exact sumN_congr fun t ht=>Int.mul_comm _ _
   ·rfl
  rw [e2,det_col_sum (v:=fun a t=>X t (σ a)) hir,sumN_one (c:=i) hir]
  ·rw [setc_self (fun a b=>X b (σ a)) i]
  ·intro t ht hne
   have : det r (setc (fun a b=>X b (σ a)) i fun a=>X t (σ a)) = 0:=by
    rcases Nat.lt_or_ge t i with h2 | h2
    ·exact det_col_eq h2 hir fun a=>by unfold setc; rw [if_pos rfl,if_neg oM]
    ·exact det_col_eq (c:=i) (d:=t) oM ht fun a=>by unfold setc; rw [if_pos rfl,if_neg oM]
   rw [this,Int.mul_zero]
 have e3 : (det r (setc (fun a b=>X b (σ a)) i fun a=>A (σ a) b)).natAbs<=5040 * (64 * h) ^ 7:=det_le7 hr4 oM fun a ha b' hb'=>by
  unfold setc
  split
  ·have:=hA _ (hσ a ha) b hb
   dsimp only
   omega
  ·exact hV8 b' hb' _ (hσ a ha)
 rw [e1,Int.natAbs_mul] at e3
 exact Nat.le_trans (Nat.le_mul_of_pos_right _ oM) e3
theorem ker_wit7 {C h N : Nat} {A : Nat->Nat->Int} (h1 : 1<=h) (hN : N<=7) : ∀R,R<=N->leM h R C A->∃r m,∃(ρ : Nat->Nat) (W : Nat->Nat->Int),m + r = R/\Min1 r R C A/\¬ Min1 (r + 1) R C A ∧
  (∀i,i < m->ρ i < R/\W i (ρ i) ≠ 0/\(∀t,ρ i < t->W i t = 0)/\KerL R C A (W i)/\∀t,(W i t).natAbs<=N * (5040 * h ^ 7))/\∀i j,i < j->j < m->ρ i < ρ j:=by
 intro R
 induction R with
 | zero=>
  intro _ _
  refine ⟨0,0,fun _=>0,fun _ _=>0,rfl,⟨fun a=>a,fun a=>a,fun a ha=>by omega,fun a ha=>by omega,show (1 : Int) ≠ 0 by decide⟩,?_,fun i hi=>by omega,fun i j _ hj=>by omega⟩
  rintro ⟨σ,τ,hσ,-,-⟩
  have:=hσ 0 oM
  omega
 | succ R ih=>
  intro hR hA
  obtain ⟨r,m,ρ,W,e1,hm,hn,hW,hρ⟩:=ih oM fun a ha b hb=>hA a oM b hb
  have up : Min1 r (R + 1) C A:=by
   obtain ⟨σ,τ,a,b,c⟩:=hm
   exact ⟨σ,τ,fun i hi=>by have:=a i hi; omega,b,c⟩
  have old : ∀i,i < m->ρ i < R + 1/\W i (ρ i) ≠ 0/\(∀t,ρ i < t->W i t = 0)/\KerL (R + 1) C A (W i)/\∀t,(W i t).natAbs<=N * (5040 * h ^ 7):=fun i hi=>by
   obtain ⟨a1,a2,a3,a4,a5⟩:=hW i hi
   refine ⟨by omega,a2,a3,fun b hb=>?_,a5⟩
   show (sumN R fun a=>W i a * A a b) + W i R * A R b = 0
   rw [a4 b hb,a3 R a1,Int.zero_mul]
   rfl
  by_cases hx : Min1 (r + 1) (R + 1) C A
  ·exact ⟨r + 1,m,ρ,W,by omega,hx,minors_succ hn,old,hρ⟩
  ·have hr4 : r<=7:=by omega
   obtain ⟨σ,τ,hσ,hτ,hd⟩:=hm
   obtain ⟨q,hq0,hq1⟩ : ∃q : Nat->Nat,q 0 = R/\∀a,q (a + 1) = σ a:=⟨fun a=>if a = 0 then R else σ (a - 1),rfl,fun a=>rfl⟩
   have hqR : ∀i,i < r + 1->q i < R + 1:=fun i hi=>by
    cases i with
    | zero=>rw [hq0]; omega
    | succ i=>rw [hq1]; have:=hσ i oM; omega
   have hqn : ∀i,i < r + 1->i ≠ 0->q i < R:=fun i hi hne=>by
    cases i with
    | zero=>omega
    | succ i=>rw [hq1]; exact hσ i oM
   obtain ⟨cf,hcf⟩ : ∃cf : Nat->Int,∀i,cf i = sg1 i * det r fun a b=>A (q (sk i a)) (τ b):=⟨_,fun _=>rfl⟩
   obtain ⟨w,hw⟩ : ∃w : Nat->Int,∀s,w s = sumN (r + 1) fun i=>if q i = s then cf i else 0:=⟨_,fun _=>rfl⟩
   have hc0 : cf 0 ≠ 0:=by
    rw [hcf]
    have : (det r fun a b=>A (q (sk 0 a)) (τ b)) = det r fun a b=>A (σ a) (τ b):=det_congr fun a _ b _=>by rw [sk_zero,hq1]
    rw [this]
    simpa [sg1] using hd
   have hwR : w R = cf 0:=by
    rw [hw,sumN_one (c:=0) oM (fun i hi hne=>by rw [if_neg (by have:=hqn i hi hne; omega)]),if_pos hq0]
   have hker : KerL (R + 1) C A w:=fun b hb=>by
    have e : (sumN (R + 1) fun s=>w s * A s b) = sumN (r + 1) fun i=>cf i * A (q i) b:=by
     have e2 : (sumN (R + 1) fun s=>w s * A s b) = sumN (R + 1) fun s=>sumN (r + 1) fun i=>(if q i = s then cf i else 0) * A s b:=sumN_congr fun s _=>by rw [hw,<-sumN_mulr]
     rw [e2,sumN_swap]
     exact sumN_congr fun i hi=>sumN_ite (hqR i hi) (cf i) fun s=>A s b
    rw [e]
    have h0 : det (r + 1) (fun i j=>A (q i) (if j = 0 then b else τ (j - 1))) = 0:=Classical.byContradiction fun h0=>hx ⟨q,fun j=>if j = 0 then b else τ (j - 1),hqR,fun j hj=>by
     dsimp only
     split
     ·exact hb
     ·exact hτ _ oM,h0⟩
    rw [det_first_col] at h0
    rw [<-h0]
    refine sumN_congr fun i hi=>?_
    have : det r (mnr (fun i j=>A (q i) (if j = 0 then b else τ (j - 1))) i 0) = det r fun a b'=>A (q (sk i a)) (τ b'):=det_congr fun a _ b' _=>by
     unfold mnr
     dsimp only
     rw [sk_zero,if_neg oM,Nat.add_sub_cancel]
    rw [this,hcf,if_pos rfl,Int.mul_assoc,Int.mul_comm (A (q i) b)]
   have hbd : ∀t,(w t).natAbs<=N * (5040 * h ^ 7):=fun t=>by
    rw [hw]
    have:=sumN_natAbs (n:=r + 1) (f:=fun i=>if q i = t then cf i else 0) (B:=5040 * h ^ 7) fun i hi=>by
     split
     ·rw [hcf,sg1_abs]
      exact det_le7 hr4 h1 fun a ha b hb=>hA _ (hqR _ (sk_lt ha)) _ (hτ b hb)
     ·exact Nat.zero_le _
    refine Nat.le_trans this ?_
    exact Nat.mul_le_mul_right _ oM
   refine ⟨r,m + 1,fun i=>if i = m then R else ρ i,fun i=>if i = m then w else W i,by omega,up,hx,fun i hi=>?_,fun i j hij hj=>?_⟩
   ·by_cases e : i = m
    ·dsimp only
     rw [if_pos e,if_pos e]
     refine ⟨by omega,by rw [hwR]; exact hc0,fun t ht=>?_,hker,hbd⟩
     rw [hw]
     exact sumN_zero fun k hk=>by rw [if_neg (by have:=hqR k hk; omega)]
    ·dsimp only
     rw [if_neg e,if_neg e]
     exact old i oM
   ·dsimp only
    rw [if_neg oM]
    by_cases e : j = m
    ·rw [if_pos e]; exact (hW i oM).1
    ·rw [if_neg e]; exact hρ i j hij oM
theorem HB.bound7 {R C m h : Nat} {W G : Nat->Nat->Int} {L : (Nat->Int)->Prop} (hb : HB C m G L) (hm4 : m<=7) (h1 : 1<=h) (hW : leM h R C W) (hL : ∀a,a < R->L (W a)) (hm : Min1 m R C W) : leM (5040 * (64 * h) ^ 7) m C G:=by
 obtain ⟨c,hc⟩:=hb.hnf
 obtain ⟨X,hX⟩:=choose_rows fun a ha=>(hb.iff _).1 (hL a ha)
 obtain ⟨σ,τ,hσ,hτ,hd⟩:=hm
 refine hnf_bound7 (X:=fun t a=>X a t) hm4 h1 hc.ech hc.red hW hX hσ fun h0=>hd ?_
 have h2 : (0 : Int) ∣ det m fun a b=>sumN m fun t=>X (σ a) t * G t (τ b):=det_dvd_cols (F:=fun a t=>X (σ a) t) (Q:=fun t b=>G t (τ b)) fun ρ hρ=>by
  have:=det_self (A:=fun a t=>X (σ a) t) (fun a=>a) ρ (fun a ha=>ha) hρ
  rw [show det m (fun a t=>X (σ a) t) = 0 from h0] at this
  exact this
 rw [det_congr (G:=fun a b=>W (σ a) (τ b)) fun a ha b hb=>(hX _ (hσ a ha) _ (hτ b hb)).symm] at h2
 exact Int.zero_dvd.1 h2
theorem hker_bound7 {R C r m h N : Nat} {c : Nat->Nat} {A H U V G : Nat->Nat->Int} (hf : HForm R C r c A H U V) (hb : HB R m G (KerL R C A)) (hN : N<=7) (hN0 : 0 < N) (hR : R<=N) (hm4 : m<=7) (h1 : 1<=h) (hA : leM h R C A) : leM (5040 * (64 * (N * (5040 * h ^ 7))) ^ 7) m R G:=by
 obtain ⟨r',m',ρ,W,e1,hm,hn,hW,hρ⟩:=ker_wit7 h1 hN R hR hA
 have e2:=hker_rows hf hb
 have e3:=hf.lat.rank hm
 have e4 : r<=r':=Nat.le_of_not_lt fun hlt=>by
  refine hn ?_
  have:=hf.lat.min1
  obtain ⟨d,rfl⟩:=Nat.exists_eq_add_of_lt hlt
  clear e1 e2 e3 hlt hW hρ hm hn hf
  induction d with
  | zero=>exact this
  | succ d ih=>exact ih this.down
 obtain rfl : m' = m:=by omega
 refine hb.bound7 (R:=m') (W:=W) oM (Nat.le_trans h1 (Nat.le_trans (Nat.le_pow oM) (Nat.le_trans (Nat.le_mul_of_pos_left _ (show 0 < 5040 by omega)) (Nat.le_mul_of_pos_left _ hN0)))) (fun a ha b _=>(hW a ha).2.2.2.2 b) (fun a ha=>(hW a ha).2.2.2.1) ⟨fun a=>a,ρ,fun a ha=>ha,fun a ha=>(hW a ha).1,?_⟩
 rw [det_lower fun a ha b hb' hab=>(hW a ha).2.2.1 _ (hρ a b hab hb')]
 exact prodN_ne fun i hi=>(hW i hi).2.1
end Go.Proofs.YtjdemlfceaikgaaGreat
