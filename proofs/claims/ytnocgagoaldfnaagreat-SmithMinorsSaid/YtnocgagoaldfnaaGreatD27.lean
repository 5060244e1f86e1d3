/- Hermite normal forms: how large, square ones, and what determinants tell. Plain Lean. smith's run (the mirror) ends within bounds; what its matrices are to each other. Plain Lean. -/
import Derived.Test.YtnocgagoaldfnaaGreatD26
set_option linter.unusedVariables false
set_option linter.unusedSimpArgs false
set_option linter.unusedSectionVars false
namespace Go.Proofs.YtnocgagoaldfnaaGreat
open Go.RowKit
theorem det_col_sum {k R : Nat} {F : Nat->Nat->Int} {i : Nat} {c : Nat->Int} {v : Nat->Nat->Int} (h : i < k) :
  det k (setc F i fun a=>sumN R fun t=>c t * v a t) = sumN R fun t=>c t * det k (setc F i fun a=>v a t):=by
 have:=det_row_sum (k:=k) (R:=R) (F:=trp F) (i:=i) (c:=c) (v:=fun t a=>v a t) h
 rw [<-det_trp] at this
 refine this.trans (sumN_congr fun t ht=>?_)
 rw [<-det_trp]
 rfl
theorem det_idf (k : Nat) : det k idf = 1:=by
 rw [det_lower (fun a _ b _ h=>by unfold idf; rw [if_neg oM])]
 induction k with
 | zero=>rfl
 | succ k ih=>unfold prodN; rw [ih]; simp [idf]
theorem fact_le {k : Nat} (hk : k<=4) : factN k<=24:=by
 have : ∀k,k<=4->factN k<=24:=by decide
 exact this k hk
theorem det_le {k h : Nat} {F : Nat->Nat->Int} (hk : k<=4) (h1 : 1<=h) (hF : ∀a,a < k->∀b,b < k->(F a b).natAbs<=h) : (det k F).natAbs<=24 * h ^ 4:=
 Nat.le_trans (det_natAbs hF) (Nat.mul_le_mul (fact_le hk) (le_pow2 h1 hk))
theorem det_some {r R : Nat} {P V : Nat->Nat->Int} (h : ∀a,a < r->∀b,b < r->sumN R (fun t=>P a t * V t b) = idf a b) : ∃σ : Nat->Nat,(∀a,a < r->σ a < R)/\det r (fun a b=>V (σ a) b) ≠ 0:=by
 refine Classical.byContradiction fun hn=>?_
 have h1 : (0 : Int) ∣ det r fun a b=>sumN R fun t=>P a t * V t b:=det_dvd_rows fun σ hσ=>by
  have : det r (fun a b=>V (σ a) b) = 0:=Classical.byContradiction fun h0=>hn ⟨σ,hσ,h0⟩
  rw [this]
  exact Int.dvd_refl 0
 rw [det_congr (G:=idf) h,det_idf] at h1
 have:=Int.zero_dvd.1 h1
 omega
theorem hnf_bound {R C r h : Nat} {c : Nat->Nat} {A H U X : Nat->Nat->Int} (hR : R<=4) (h1 : 1<=h) (hH : Hnf C R r c H) (hA : leM h R C A) (hback : ∀a,a < R->∀b,b < C->A a b = sumN R fun t=>X t a * H t b)
  (huv : ∀a,a < R->∀b,b < R->dot R U X a b = idf a b) : leM (24 * (8 * h) ^ 4) R C H:=by
 have hr4 : r<=4:=Nat.le_trans hH.le hR
 have hback2 : ∀a,a < R->∀b,b < C->A a b = sumN r fun t=>X t a * H t b:=fun a ha b hb=>by
  rw [hback a ha b hb]
  refine sumN_ext hH.le fun t h2 h3=>?_
  rw [hH.zero t h2 h3 b hb,Int.mul_zero]
 have hpivz : ∀j,j < r->∀t,j < t->t < r->H t (c j) = 0:=fun j hj t h2 h3=>hH.ech.zero t h3 _ (hH.ech.inc j t h2 h3)
 have hV : ∀j,j < r->∀a,a < R->(X j a).natAbs<=h * 2 ^ j:=by
  intro j
  induction j using Nat.strongRecOn with
  | ind j ih=>
   intro hj a ha
   have e:=hback2 a ha (c j) (hH.ech.lt j hj)
   have hp:=hH.ech.pos j hj
   rw [sumN_ext (n:=j + 1) oM (fun t h2 h3=>by rw [hpivz j hj t oM h3,Int.mul_zero])] at e
   have hs : sumN (j + 1) (fun t=>X t a * H t (c j)) = sumN j (fun t=>X t a * H t (c j)) + X j a * H j (c j):=rfl
   rw [hs] at e
   obtain ⟨p,hpp⟩ : ∃p : Nat,H j (c j) = (p : Int):=⟨(H j (c j)).toNat,by omega⟩
   have hsum : ∀m,m<=j->(sumN m (fun t=>X t a * H t (c j))).natAbs<=(h * 2 ^ m - h) * p:=by
    intro m
    induction m with
    | zero=>intro _; simp [sumN]
    | succ m ihm=>
     intro hm
     have g1:=ihm oM
     have g2:=ih m oM oM a ha
     have g3:=hH.red m j oM hj trivial
     have g4 : (H m (c j)).natAbs<=p:=by omega
     have g5 : (X m a * H m (c j)).natAbs<=h * 2 ^ m * p:=by rw [Int.natAbs_mul]; exact Nat.mul_le_mul g2 g4
     have g6 : (sumN (m + 1) (fun t=>X t a * H t (c j))).natAbs<=(sumN m (fun t=>X t a * H t (c j))).natAbs + (X m a * H m (c j)).natAbs:=by
      show (sumN m (fun t=>X t a * H t (c j)) + X m a * H m (c j)).natAbs<=_
      omega
     have g7 : (h * 2 ^ m - h) * p + h * 2 ^ m * p = (h * 2 ^ (m + 1) - h) * p:=by
      rw [<-Nat.add_mul]
      congr 1
      have : h<=h * 2 ^ m:=Nat.le_mul_of_pos_right _ (Nat.pow_pos oM)
      rw [Nat.pow_succ,<-Nat.mul_assoc]
      omega
     omega
   have g1:=hsum j (Nat.le_refl _)
   have g2:=hA a ha (c j) (hH.ech.lt j hj)
   have g3 : (X j a * H j (c j)).natAbs<=h + (h * 2 ^ j - h) * p:=by omega
   rw [Int.natAbs_mul,hpp,Int.natAbs_natCast] at g3
   have g4 : h<=h * p:=Nat.le_mul_of_pos_right _ oM
   have g5 : h * p + (h * 2 ^ j - h) * p = h * 2 ^ j * p:=by
    rw [<-Nat.add_mul]
    congr 1
    have : h<=h * 2 ^ j:=Nat.le_mul_of_pos_right _ (Nat.pow_pos oM)
    omega
   have g6 : (X j a).natAbs * p<=h * 2 ^ j * p:=by omega
   exact Nat.le_of_mul_le_mul_right g6 oM
 have hV8 : ∀j,j < r->∀a,a < R->(X j a).natAbs<=8 * h:=fun j hj a ha=>by
  have g1:=hV j hj a ha
  have g2 : 2 ^ j<=2 ^ 3:=Nat.pow_le_pow_right oM oM
  have g3 : h * 2 ^ j<=h * 2 ^ 3:=Nat.mul_le_mul_left _ g2
  omega
 obtain ⟨σ,hσ,hdet⟩:=det_some (r:=r) (R:=R) (P:=U) (V:=fun t b=>X b t) (fun a ha b hb=>huv a (by have:=hH.le; omega) b (by have:=hH.le; omega))
 intro i hi b hb
 rcases Nat.lt_or_ge i r with hir | hir
 ·have e1 : det r (setc (fun a b=>X b (σ a)) i fun a=>A (σ a) b) = H i b * det r (fun a b=>X b (σ a)):=by
   have e2 : det r (setc (fun a b=>X b (σ a)) i fun a=>A (σ a) b) = det r (setc (fun a b=>X b (σ a)) i fun a=>sumN r fun t=>H t b * X t (σ a)):=det_congr fun a ha b' hb'=>by
    unfold setc
    split
    ·dsimp only
     rw [hback2 _ (hσ a ha) b hb]
     exact sumN_congr fun t ht=>Int.mul_comm _ _
    ·rfl
   rw [e2,det_col_sum (v:=fun a t=>X t (σ a)) hir,sumN_one (c:=i) hir]
   ·rw [setc_self (fun a b=>X b (σ a)) i]
   ·intro t ht hne
    have : det r (setc (fun a b=>X b (σ a)) i fun a=>X t (σ a)) = 0:=by
     rcases Nat.lt_or_ge t i with h2 | h2
     ·exact det_col_eq h2 hir fun a=>by unfold setc; rw [if_pos rfl,if_neg oM]
     ·exact det_col_eq (c:=i) (d:=t) oM ht fun a=>by unfold setc; rw [if_pos rfl,if_neg oM]
    rw [this,Int.mul_zero]
  have e3 : (det r (setc (fun a b=>X b (σ a)) i fun a=>A (σ a) b)).natAbs<=24 * (8 * h) ^ 4:=det_le hr4 oM fun a ha b' hb'=>by
   unfold setc
   split
   ·have:=hA _ (hσ a ha) b hb
    dsimp only
    omega
   ·exact hV8 b' hb' _ (hσ a ha)
  rw [e1,Int.natAbs_mul] at e3
  exact Nat.le_trans (Nat.le_mul_of_pos_right _ oM) e3
 ·rw [hH.zero i hir hi b hb]
  exact Nat.zero_le _
theorem hnf_square {n m r r' : Nat} {c σ : Nat->Nat} {F H X : Nat->Nat->Int} (hH : Hnf m n r c H) (hback : ∀a,a < n->∀b,b < m->F a b = sumN n fun t=>X t a * H t b) (hcol : ∀a,a < n->∀b,r'<=b->b < m->H a b = 0) (hr' : r'<=m)
  (hσ : ∀a,a < r'->σ a < n) (hdet : det r' (fun a b=>F (σ a) b) ≠ 0) : r = r'/\∀k,k < r->c k = k:=by
 have hc : ∀k,k < r->c k < r':=fun k hk=>by
  rcases Nat.lt_or_ge (c k) r' with h | h
  ·exact h
  ·have h1:=hcol k (by have:=hH.le; omega) (c k) h (hH.ech.lt k hk)
   have h2:=hH.ech.pos k hk
   omega
 have hck : ∀k,k < r->k<=c k:=by
  intro k
  induction k with
  | zero=>intro _; omega
  | succ k ih=>
   intro hk
   have h1:=ih oM
   have h2:=hH.ech.inc k (k + 1) oM hk
   omega
 have hle : r<=r':=by
  rcases Nat.eq_zero_or_pos r with h | h
  ·omega
  ·have h1:=hck (r - 1) oM
   have h2:=hc (r - 1) oM
   omega
 have hge : r'<=r:=by
  rcases Nat.lt_or_ge r r' with h | h
  ·have h1 : (0 : Int) ∣ det r' fun a b=>sumN n fun t=>X t (σ a) * H t b:=det_dvd_rows (P:=fun a t=>X t (σ a)) (F:=H) fun τ hτ=>by
    refine dvd_rows_inc (R:=n) (F:=H) (fun τ hτ hi=>?_) τ hτ
    have h2:=hi.le (r' - 1) oM
    rw [det_row_zero (c:=r' - 1) oM fun b hb=>hH.zero _ oM (hτ _ oM) b oM]
    exact Int.dvd_refl 0
   rw [det_congr (G:=fun a b=>F (σ a) b) fun a ha b hb=>(hback _ (hσ a ha) b oM).symm] at h1
   exact absurd (Int.zero_dvd.1 h1) hdet
  ·exact h
 refine ⟨by omega,fun k hk=>?_⟩
 have hup : ∀d k,k + d + 1 = r->c k + d < r':=by
  intro d
  induction d with
  | zero=>intro k hk; exact hc k oM
  | succ d ih=>
   intro k hk
   have h1:=ih (k + 1) oM
   have h2:=hH.ech.inc k (k + 1) oM oM
   omega
 have h1:=hup (r - 1 - k) k oM
 have h2:=hck k hk
 omega
theorem hnf_dvd {n m r j : Nat} {F H X : Nat->Nat->Int} (hH : Hnf m n r (fun k=>k) H) (hback : ∀a,a < n->∀b,b < m->F a b = sumN n fun t=>X t a * H t b) (hj : j<=r) (hlow : ∀a,a < j->∀b,b < j->a < b->F a b = 0) :
  prodN j (fun i=>H i i) ∣ prodN j (fun i=>F i i):=by
 have hrn:=hH.le
 have hrm : r<=m:=by
  rcases Nat.eq_zero_or_pos r with h | h
  ·omega
  ·have:=hH.ech.lt (r - 1) oM
   omega
 rw [<-det_lower hlow]
 have h1 : prodN j (fun i=>H i i) ∣ det j fun a b=>sumN n fun t=>X t a * H t b:=det_dvd_rows (P:=fun a t=>X t a) (F:=H) fun τ hτ=>by
  refine dvd_rows_inc (R:=n) (F:=H) (fun τ hτ hi=>?_) τ hτ
  rcases Nat.eq_zero_or_pos j with hj0 | hj0
  ·subst hj0; exact Int.dvd_refl _
  ·rcases Nat.lt_or_ge (τ (j - 1)) j with h | h
   ·have hid : ∀d,d < j->τ (j - 1 - d) = j - 1 - d:=by
     intro d hd
     have h2:=hi.le (j - 1 - d) oM
     rcases Nat.eq_zero_or_pos d with h3 | h3
     ·subst h3
      have:=hi.le (j - 1) oM
      simp only [Nat.sub_zero] at *
      omega
     ·have : ∀d,d < j->τ (j - 1 - d) + d<=τ (j - 1):=by
       intro d
       induction d with
       | zero=>intro _; simp
       | succ d ihd=>
        intro hd
        have g1:=ihd oM
        have g2:=hi (j - 1 - (d + 1)) oM
        rw [show j - 1 - (d + 1) + 1 = j - 1 - d by omega] at g2
        omega
      have:=this d hd
      omega
    rw [det_congr (G:=H) fun a ha b hb=>by
     have:=hid (j - 1 - a) oM
     rw [show j - 1 - (j - 1 - a) = a by omega] at this
     rw [this]]
    rw [det_upper fun a ha b hb hab=>hH.ech.zero a oM b hab]
    exact Int.dvd_refl _
   ·rw [det_row_zero (c:=j - 1) oM fun b hb=>?_]
    ·exact Int.dvd_zero _
    ·rcases Nat.lt_or_ge (τ (j - 1)) r with h2 | h2
     ·exact hH.ech.zero _ h2 b oM
     ·exact hH.zero _ h2 (hτ _ oM) b oM
 rwa [det_congr (G:=F) fun a ha b hb=>(hback a oM b oM).symm] at h1
theorem hnf_diag {n m r : Nat} {F H X : Nat->Nat->Int} (hH : Hnf m n r (fun k=>k) H) (hback : ∀a,a < n->∀b,b < m->F a b = sumN n fun t=>X t a * H t b) (hlow : ∀a,a < r->∀b,b < r->a < b->F a b = 0) (hp : ∀i,i < r->F i i = H i i) (hrm : r<=m) :
  ∀i,i < r->∀b,b < r->i < b->H i b = 0:=by
 have hrn:=hH.le
 have hback2 : ∀a,a < n->∀b,b < m->F a b = sumN r fun t=>X t a * H t b:=fun a ha b hb=>by
  rw [hback a ha b hb]
  refine sumN_ext hH.le fun t h2 h3=>?_
  rw [hH.zero t h2 h3 b hb,Int.mul_zero]
 intro i
 induction i using Nat.strongRecOn with
 | ind i ihi=>
  intro hi
  have hpi : 0 < H i i:=hH.ech.pos i hi
  have hone : X i i = 1:=by
   have e:=hback2 i oM i oM
   rw [sumN_one (c:=i) hi (fun t ht hne=>by
    rcases Nat.lt_or_ge t i with h | h
    ·rw [ihi t h ht i hi h,Int.mul_zero]
    ·rw [hH.ech.zero t ht i (by show i < t; omega),Int.mul_zero]),hp i hi] at e
   have h2 : (X i i - 1) * H i i = 0:=by rw [Int.sub_mul,Int.one_mul]; omega
   rcases Int.mul_eq_zero.1 h2 with h | h <;> omega
  have key : ∀b,b < r->i < b->H i b = 0/\X b i = 0:=by
   intro b
   induction b using Nat.strongRecOn with
   | ind b ihb=>
    intro hb hib
    have e:=hback2 i oM b oM
    rw [hlow i hi b hb hib] at e
    have hsplit : sumN r (fun t=>X t i * H t b) = X i i * H i b + X b i * H b b:=by
     have g1 : sumN r (fun t=>X t i * H t b) = sumN r (fun t=>(if t = i then X i i * H i b else 0) + (if t = b then X b i * H b b else 0)):=sumN_congr fun t ht=>by
      by_cases e1 : t = i
      ·rw [if_pos e1,if_neg oM,e1]; omega
      ·rw [if_neg e1]
       by_cases e2 : t = b
       ·rw [if_pos e2,e2]; omega
       ·rw [if_neg e2]
        rcases Nat.lt_or_ge t b with h | h
        ·rcases Nat.lt_or_ge t i with h3 | h3
         ·rw [ihi t h3 ht b hb oM,Int.mul_zero]; rfl
         ·rw [(ihb t h ht oM).2,Int.zero_mul]; rfl
        ·rw [hH.ech.zero t ht b (by show b < t; omega),Int.mul_zero]; rfl
     rw [g1,sumN_add,sumN_one (c:=i) hi (fun t _ hne=>if_neg hne),sumN_one (c:=b) hb (fun t _ hne=>if_neg hne),if_pos rfl,if_pos rfl]
    rw [hsplit,hone,Int.one_mul] at e
    have hr : 0<=H i b/\H i b < H b b:=hH.red i b hib hb trivial
    have hX : X b i = 0:=by
     rcases Int.lt_trichotomy (X b i) 0 with h | h | h
     ·have : X b i * H b b<=-1 * H b b:=Int.mul_le_mul_of_nonneg_right oM oM
      omega
     ·exact h
     ·have : 1 * H b b<=X b i * H b b:=Int.mul_le_mul_of_nonneg_right oM oM
      omega
    rw [hX,Int.zero_mul] at e
    exact ⟨by omega,hX⟩
  exact fun b hb hib=>(key b hb hib).1
theorem hnf_prod {R C r h : Nat} {A H P Q P' Q' : Nat->Nat->Int} (hr4 : r<=4) (h1 : 1<=h) (hH : Hnf C R r (fun k=>k) H) (hcol : ∀a,a < R->∀b,r<=b->b < C->H a b = 0) (hA : leM h R C A)
  (hto : ∀a,a < R->∀b,b < C->H a b = sumN R fun s=>P a s * sumN C fun t=>A s t * Q t b) (hfrom : ∀a,a < R->∀b,b < C->A a b = sumN R fun s=>P' a s * sumN C fun t=>H s t * Q' t b) :
  (prodN r (fun i=>H i i)).natAbs<=24 * h ^ 4:=by
 have hrn:=hH.le
 have hrC : r<=C:=by
  rcases Nat.eq_zero_or_pos r with h | h
  ·omega
  ·have:=hH.ech.lt (r - 1) oM
   omega
 have hpos : 0 < prodN r (fun i=>H i i):=prodN_pos fun i hi=>hH.ech.pos i hi
 have hdH : det r H = prodN r (fun i=>H i i):=det_upper fun a ha b hb hab=>hH.ech.zero a ha b hab
 obtain ⟨σ,τ,hσ,hτ,hne⟩ : ∃σ τ : Nat->Nat,(∀a,a < r->σ a < R)/\(∀a,a < r->τ a < C)/\det r (fun a b=>A (σ a) (τ b)) ≠ 0:=by
  refine Classical.byContradiction fun hn=>?_
  have g1 : (0 : Int) ∣ det r fun a b=>sumN R fun s=>P a s * sumN C fun t=>A s t * Q t b:=det_dvd_both fun σ τ hσ hτ=>by
   have : det r (fun a b=>A (σ a) (τ b)) = 0:=Classical.byContradiction fun h0=>hn ⟨σ,τ,hσ,hτ,h0⟩
   rw [this]
   exact Int.dvd_refl 0
  rw [det_congr (G:=H) fun a ha b hb=>(hto a oM b oM).symm,hdH] at g1
  have:=Int.zero_dvd.1 g1
  omega
 have g2 : prodN r (fun i=>H i i) ∣ det r fun a b=>sumN R fun s=>P' (σ a) s * sumN C fun t=>H s t * Q' t (τ b):=det_dvd_both (P:=fun a s=>P' (σ a) s) (Q:=fun t b=>Q' t (τ b)) fun σ' τ' hσ' hτ'=>by
  refine dvd_both_inc (R:=R) (C:=C) (F:=H) (fun σ' τ' hσ' hτ' hi hi'=>?_) σ' τ' hσ' hτ'
  rcases Nat.eq_zero_or_pos r with hr0 | hr0
  ·subst hr0; exact Int.dvd_refl _
  ·have hid : ∀τ : Nat->Nat,Inc r τ->τ (r - 1) < r->∀a,a < r->τ a = a:=by
    intro τ hi hl a ha
    have h2:=hi.le a ha
    have : ∀d,d < r->τ (r - 1 - d) + d<=τ (r - 1):=by
     intro d
     induction d with
     | zero=>intro _; simp
     | succ d ihd=>
      intro hd
      have g1:=ihd oM
      have g2:=hi (r - 1 - (d + 1)) oM
      rw [show r - 1 - (d + 1) + 1 = r - 1 - d by omega] at g2
      omega
    have:=this (r - 1 - a) oM
    rw [show r - 1 - (r - 1 - a) = a by omega] at this
    omega
   rcases Nat.lt_or_ge (σ' (r - 1)) r with h3 | h3
   ·rcases Nat.lt_or_ge (τ' (r - 1)) r with h4 | h4
    ·rw [det_congr (G:=H) fun a ha b hb=>by rw [hid σ' hi h3 a ha,hid τ' hi' h4 b hb],hdH]
     exact Int.dvd_refl _
    ·rw [det_col_zero (F:=fun a b=>H (σ' a) (τ' b)) (c:=r - 1) oM fun a ha=>hcol _ (hσ' a ha) _ h4 (hτ' _ oM)]
     exact Int.dvd_zero _
   ·rw [det_row_zero (c:=r - 1) oM fun b hb=>hH.zero _ h3 (hσ' _ oM) _ (hτ' b hb)]
    exact Int.dvd_zero _
 rw [det_congr (G:=fun a b=>A (σ a) (τ b)) fun a ha b hb=>(hfrom _ (hσ a ha) _ (hτ b hb)).symm] at g2
 refine Nat.le_trans ?_ (det_le (F:=fun a b=>A (σ a) (τ b)) hr4 h1 fun a ha b hb=>hA _ (hσ a ha) _ (hτ b hb))
 exact Nat.le_of_dvd oM (Int.natAbs_dvd_natAbs.2 g2)
theorem prod_ge {r : Nat} {f : Nat->Int} (h : ∀i,i < r->0 < f i) {i : Nat} (hi : i < r) : f i<=prodN r f:=by
 induction r with
 | zero=>omega
 | succ r ih=>
  have hp : 0 < prodN r f:=prodN_pos fun j hj=>h j oM
  have hl:=h r oM
  unfold prodN
  by_cases e : i = r
  ·rw [e]
   have : 1 * f r<=prodN r f * f r:=Int.mul_le_mul_of_nonneg_right oM oM
   omega
  ·have h1:=ih (fun j hj=>h j oM) oM
   have : prodN r f * 1<=prodN r f * f r:=Int.mul_le_mul_of_nonneg_left oM oM
   omega
theorem hnf_small {R C r T : Nat} {H : Nat->Nat->Int} (hH : Hnf C R r (fun k=>k) H) (hcol : ∀a,a < R->∀b,r<=b->b < C->H a b = 0) (hT : (prodN r (fun i=>H i i)).natAbs<=T) : leM T R C H:=by
 intro a ha b hb
 refine Nat.le_trans ?_ hT
 have hpos : ∀i,i < r->0 < H i i:=fun i hi=>hH.ech.pos i hi
 rcases Nat.lt_or_ge a r with h1 | h1
 ·rcases Nat.lt_or_ge b r with h2 | h2
  ·have g:=prod_ge hpos h2
   rcases Nat.lt_trichotomy a b with h3 | h3 | h3
   ·have : 0<=H a b/\H a b < H b b:=hH.red a b h3 h2 trivial
    omega
   ·subst h3
    have:=hpos a h1
    omega
   ·rw [hH.ech.zero a h1 b h3]; omega
  ·rw [hcol a ha b h2 hb]; omega
 ·rw [hH.zero a h1 ha b hb]; omega
structure Rel (R C : Nat) (A : Nat->Nat->Int) (z : W5) : Prop where
 s : ∀a,a < R->∀b,b < C->z.s a b = sumN R fun s=>z.u a s * sumN C fun t=>A s t * z.w b t
 uv : ∀a,a < R->∀b,b < R->dot R z.u z.v a b = idf a b
 vu : ∀a,a < R->∀b,b < R->cod R z.v z.u a b = idf a b
 wx : ∀a,a < C->∀b,b < C->dot C z.w z.x a b = idf a b
 xw : ∀a,a < C->∀b,b < C->cod C z.x z.w a b = idf a b
theorem idf_comm (a b : Nat) : idf a b = idf b a:=by unfold idf; split <;> split <;> omega
theorem sum_idf {n a : Nat} (ha : a < n) (f : Nat->Int) : sumN n (fun t=>f t * idf t a) = f a:=by
 rw [sumN_one (c:=a) ha]
 ·unfold idf; rw [if_pos rfl,Int.mul_one]
 ·intro t ht hne
  unfold idf; rw [if_neg hne,Int.mul_zero]
theorem dot_idf (n : Nat) : ∀a,a < n->∀b,b < n->dot n idf idf a b = idf a b:=fun a ha b hb=>by
 unfold dot
 rw [sumN_congr (g:=fun t=>idf a t * idf t b) (fun t ht=>by rw [idf_comm b t]),sum_idf hb]
theorem cod_idf (n : Nat) : ∀a,a < n->∀b,b < n->cod n idf idf a b = idf a b:=fun a ha b hb=>by
 unfold cod
 rw [sumN_congr (g:=fun t=>idf a t * idf t b) (fun t ht=>by rw [idf_comm t a]),sum_idf hb]
theorem Rel.start (R C : Nat) (A : Nat->Nat->Int) : Rel R C A ⟨A,idf,idf,idf,idf⟩:=
 ⟨fun a ha b hb=>by
  show A a b = sumN R fun s=>idf a s * sumN C fun t=>A s t * idf b t
  rw [<-idf_sum ha fun s=>sumN C fun t=>A s t * idf b t,sumN_congr (g:=fun t=>A a t * idf t b) (fun t ht=>by rw [idf_comm b t]),sum_idf hb],
 dot_idf R,cod_idf R,dot_idf C,cod_idf C⟩
theorem Rel.rows {R C : Nat} {A : Nat->Nat->Int} {z : W5} {l : List Op} (h : Rel R C A z) (hl : okOps R l) : Rel R C A ⟨opsF l z.s,opsF l z.u,opsD l z.v,z.w,z.x⟩:=
 ⟨fun a ha b hb=>ops_lin (b:=b) (G:=fun s b=>sumN C fun t=>A s t * z.w b t) hl (fun a ha=>h.s a ha b hb) a ha,ops_dot hl h.uv,fun a ha b hb=>by
  show cod R (opsD l z.v) (opsF l z.u) a b = _
  rw [ops_cod hl]; exact h.vu a ha b hb,h.wx,h.xw⟩
theorem Rel.cols {R C : Nat} {A : Nat->Nat->Int} {z : W5} {l : List Op} (h : Rel R C A z) (hl : okOps C l) : Rel R C A ⟨trF (opsF l (trF z.s)),z.u,z.v,opsF l z.w,opsD l z.x⟩:=
 ⟨fun a ha b hb=>by
  have h1 : ∀b,b < C->trF z.s b a = sumN C fun t=>z.w b t * sumN R fun s=>z.u a s * A s t:=fun b hb=>by
   show z.s a b = _
   rw [h.s a ha b hb]
   simp only [<-sumN_mul]
   rw [sumN_swap]
   refine sumN_congr fun t ht=>sumN_congr fun s hs=>?_
   rw [Int.mul_comm (z.w b t),Int.mul_assoc]
  have h2:=ops_lin (b:=a) (G:=fun t a=>sumN R fun s=>z.u a s * A s t) hl h1 b hb
  show opsF l (trF z.s) b a = _
  rw [h2]
  simp only [<-sumN_mul]
  rw [sumN_swap]
  refine sumN_congr fun t ht=>sumN_congr fun s hs=>?_
  rw [Int.mul_comm (opsF l z.w b s),Int.mul_assoc],
 h.uv,h.vu,ops_dot hl h.wx,fun a ha b hb=>by
  show cod C (opsD l z.x) (opsF l z.w) a b = _
  rw [ops_cod hl]; exact h.xw a ha b hb⟩
theorem Rel.back {R C : Nat} {A : Nat->Nat->Int} {z : W5} (h : Rel R C A z) : ∀a,a < R->∀b,b < C->A a b = sumN R fun s=>z.v s a * sumN C fun t=>z.s s t * z.x t b:=by
 intro a ha b hb
 have e1 : ∀s,s < R->sumN C (fun t=>z.s s t * z.x t b) = sumN R fun s'=>z.u s s' * A s' b:=fun s hs=>by
  have g1 : ∀t,t < C->z.s s t * z.x t b = sumN R fun s'=>z.u s s' * (sumN C fun t'=>A s' t' * (z.w t t' * z.x t b)):=fun t ht=>by
   rw [h.s s hs t ht,<-sumN_mulr]
   refine sumN_congr fun s' hs'=>?_
   rw [Int.mul_assoc,<-sumN_mulr]
   congr 1
   exact sumN_congr fun t' ht'=>Int.mul_assoc _ _ _
  rw [sumN_congr g1,sumN_swap]
  refine sumN_congr fun s' hs'=>?_
  rw [sumN_mul,sumN_swap]
  congr 1
  have g2 : ∀t',t' < C->sumN C (fun t=>A s' t' * (z.w t t' * z.x t b)) = A s' t' * idf t' b:=fun t' ht'=>by
   rw [sumN_mul]
   have:=h.xw b hb t' ht'
   unfold cod at this
   rw [idf_comm t' b,<-this]
   congr 1
   exact sumN_congr fun t ht=>Int.mul_comm _ _
  rw [sumN_congr g2,sum_idf hb fun t'=>A s' t']
 rw [sumN_congr (fun s hs=>by rw [e1 s hs])]
 have g3 : ∀s,s < R->z.v s a * sumN R (fun s'=>z.u s s' * A s' b) = sumN R fun s'=>(z.v s a * z.u s s') * A s' b:=fun s hs=>by
  rw [<-sumN_mul]
  exact sumN_congr fun s' hs'=>(Int.mul_assoc _ _ _).symm
 rw [sumN_congr g3,sumN_swap]
 have g4 : ∀s',s' < R->sumN R (fun s=>(z.v s a * z.u s s') * A s' b) = idf a s' * A s' b:=fun s' hs'=>by
  rw [sumN_mulr]
  congr 1
  exact h.vu a ha s' hs'
 rw [sumN_congr g4]
 exact idf_sum ha fun s'=>A s' b
structure leW (M R C Cu Cw : Nat) (z : W5) : Prop where
 s : leM M R C z.s
 u : leM M R Cu z.u
 v : leM M R Cu z.v
 w : leM M C Cw z.w
 x : leM M C Cw z.x
theorem leW.mono {M M' R C Cu Cw : Nat} {z : W5} (h : leW M R C Cu Cw z) (hM : M<=M') : leW M' R C Cu Cw z:=⟨h.s.mono hM,h.u.mono hM,h.v.mono hM,h.w.mono hM,h.x.mono hM⟩
theorem leM_tr {M R C : Nat} {F : Nat->Nat->Int} (h : leM M R C F) : leM M C R (trF F):=fun a ha b hb=>h b hb a ha
def rnd (z : W5) (l1 l2 : List Op) : W5:=⟨trF (opsF l2 (trF (opsF l1 z.s))),opsF l1 z.u,opsD l1 z.v,opsF l2 z.w,opsD l2 z.x⟩
theorem Rel.rnd {R C : Nat} {A : Nat->Nat->Int} {z : W5} {l1 l2 : List Op} (h : Rel R C A z) (h1 : okOps R l1) (h2 : okOps C l2) : Rel R C A (rnd z l1 l2):=(h.rows h1).cols h2
def GE (T : Nat) : Nat:=(2 * T) ^ KE
theorem GE_pos {T : Nat} (h : 1<=T) : 1<=GE T:=Nat.pow_pos oM
theorem gro_GE {T : Nat} {l : List Op} (hT : 1<=T) (h : 2 * T * gro l<=(2 * T) ^ KE) : gro l<=GE T:=Nat.le_trans (Nat.le_mul_of_pos_left _ oM) h
theorem round_ends {B R C Cu Cw M T : Nat} {z : W5} (hR : R<=4) (hC : C<=4) (hM : leW M R C Cu Cw z) (hT : leM T R C z.s) (hT1 : 1<=T) (hM1 : 1<=M) (hB : M * (GE T * GE T) < B)
  (hmid : ∀l r c,okOps R l->Hnf C R r c (opsF l z.s)->leM T R C (opsF l z.s)) :
  ∃f l1 l2 r1 c1 r2 c2,(∀g,f<=g->roundW B R C Cu Cw g z = some (rnd z l1 l2))/\okOps R l1/\okOps C l2/\leW (M * (GE T * GE T)) R C Cu Cw (rnd z l1 l2) ∧
   Hnf C R r1 c1 (opsF l1 z.s)/\Hnf R C r2 c2 (opsF l2 (trF (opsF l1 z.s))):=by
 have hG:=GE_pos hT1
 obtain ⟨f1,l1,r1,c1,a1,a2,a3,a4⟩:=echB_ends (B:=B) (Ct:=Cu) hR ⟨z.s,z.u,z.v⟩ M T ⟨hM.s,hM.u,hM.v⟩ hT hT1 hM1 (fun G hG'=>by
  refine Nat.lt_of_le_of_lt (Nat.mul_le_mul_left _ ?_) hB
  have : G<=GE T:=Nat.le_trans (Nat.le_mul_of_pos_left _ oM) hG'
  exact Nat.le_trans this (Nat.le_mul_of_pos_right _ hG))
 have hg1:=gro_GE hT1 a3
 have hT2:=hmid l1 r1 c1 a2 a4
 have hM2 : leM (M * GE T) R C (opsF l1 z.s):=(leM_opsF a2 hM.s).mono (Nat.mul_le_mul_left _ hg1)
 have hMG : M<=M * GE T:=Nat.le_mul_of_pos_right _ hG
 obtain ⟨f2,l2,r2,c2,b1,b2,b3,b4⟩:=echB_ends (B:=B) (Ct:=Cw) hC ⟨trF (opsF l1 z.s),z.w,z.x⟩ (M * GE T) T ⟨leM_tr hM2,hM.w.mono hMG,hM.x.mono hMG⟩ (leM_tr hT2) hT1 (Nat.mul_pos hM1 hG) (fun G hG'=>by
  rw [Nat.mul_assoc]
  refine Nat.lt_of_le_of_lt (Nat.mul_le_mul_left _ (Nat.mul_le_mul_left _ ?_)) hB
  exact Nat.le_trans (Nat.le_mul_of_pos_left _ oM) hG')
 have hg2:=gro_GE hT1 b3
 have hMGG : M * GE T<=M * (GE T * GE T):=Nat.mul_le_mul_left _ (Nat.le_mul_of_pos_right _ hG)
 have hm2 : M * GE T * gro l2<=M * (GE T * GE T):=by
  rw [Nat.mul_assoc]
  exact Nat.mul_le_mul_left _ (Nat.mul_le_mul_left _ hg2)
 have hm3 : M * gro l2<=M * (GE T * GE T):=Nat.le_trans (Nat.mul_le_mul_right _ hMG) hm2
 have hm1 : M * gro l1<=M * (GE T * GE T):=Nat.le_trans (Nat.mul_le_mul_left _ hg1) hMGG
 refine ⟨max f1 f2,l1,l2,r1,c1,r2,c2,fun g hg=>?_,a2,b2,⟨?_,?_,?_,?_,?_⟩,a4,b4⟩
 ·unfold roundW
  rw [a1 g oM,Option.bind_some,opsB_eq]
  dsimp only
  rw [b1 g oM,Option.bind_some,opsB_eq]
  rfl
 ·exact (leM_tr (leM_opsF b2 (leM_tr hM2))).mono hm2
 ·exact (leM_opsF a2 hM.u).mono hm1
 ·exact (leM_opsD a2 hM.v).mono hm1
 ·exact (leM_opsF b2 hM.w).mono hm3
 ·exact (leM_opsD b2 hM.x).mono hm3
structure Low (R C r : Nat) (F : Nat->Nat->Int) : Prop where
 hnf : Hnf R C r (fun k=>k) (trF F)
 row : ∀a,r<=a->a < R->∀b,b < C->F a b = 0
 le : r<=R
theorem opsF_zero {n b : Nat} {l : List Op} (hl : okOps n l) : ∀{F : Nat->Nat->Int},(∀a,a < n->F a b = 0)->∀a,a < n->opsF l F a b = 0:=by
 intro F h a ha
 rw [ops_mat hl F a ha b]
 exact sumN_zero fun t ht=>by rw [h t ht,Int.mul_zero]
theorem second {R C r1 : Nat} {c1 : Nat->Nat} {H : Nat->Nat->Int} {l2 : List Op} {r2 : Nat} {c2 : Nat->Nat} (hH : Hnf C R r1 c1 H) (hl : okOps C l2) (h2 : Hnf R C r2 c2 (opsF l2 (trF H))) :
  r2 = r1/\(∀k,k < r1->c2 k = k)/\Low R C r1 (trF (opsF l2 (trF H))):=by
 have hz : ∀a,a < C->∀b,r1<=b->b < R->opsF l2 (trF H) a b = 0:=fun a ha b h3 h4=>opsF_zero hl (fun a' ha'=>hH.zero b h3 h4 a' ha') a ha
 have hdet : det r1 (fun a b=>trF H (c1 a) b) ≠ 0:=by
  have e : (fun a b=>trF H (c1 a) b) = trp (fun a b=>H a (c1 b)):=rfl
  rw [e,det_trp,det_upper fun a ha b hb hab=>hH.ech.zero a ha _ (hH.ech.inc b a hab ha)]
  have:=prodN_pos (n:=r1) (f:=fun i=>H i (c1 i)) fun i hi=>hH.ech.pos i hi
  omega
 obtain ⟨e1,e2⟩:=hnf_square h2 (fun a ha b _=>ops_back hl (trF H) a ha b) hz hH.le (fun a ha=>hH.ech.lt a ha) hdet
 subst e1
 refine ⟨rfl,fun k hk=>e2 k hk,⟨h2.le,⟨fun k hk=>?_,fun k hk=>?_,fun k hk t ht=>?_,fun k l h3 _=>h3⟩,fun i j h3 h4 _=>?_,h2.zero⟩,fun a h3 h4 b hb=>hz b hb a h3 h4,hH.le⟩
 ·have:=h2.ech.lt k hk; rwa [e2 k hk] at this
 ·have:=h2.ech.pos k hk; rw [e2 k hk] at this; exact this
 ·exact h2.ech.zero k hk t (by rw [e2 k hk]; exact ht)
 ·have:=h2.red i j h3 h4 trivial; rw [e2 j h4] at this; exact this
theorem Hnf.congr_c {C n r : Nat} {c : Nat->Nat} {F : Nat->Nat->Int} (h : Hnf C n r c F) (he : ∀k,k < r->c k = k) : Hnf C n r (fun k=>k) F:=
 ⟨h.le,⟨fun k hk=>by have:=h.ech.lt k hk; rwa [he k hk] at this,fun k hk=>by have:=h.ech.pos k hk; rw [he k hk] at this; exact this,fun k hk t ht=>h.ech.zero k hk t (by rw [he k hk]; exact ht),fun k l h3 _=>h3⟩,
  fun i j h3 h4 _=>by have:=h.red i j h3 h4 trivial; rw [he j h4] at this; exact this,h.zero⟩
theorem first {R C r : Nat} {F : Nat->Nat->Int} {l1 : List Op} {r1 : Nat} {c1 : Nat->Nat} (hF : Low R C r F) (hl : okOps R l1) (h1 : Hnf C R r1 c1 (opsF l1 F)) :
  r1 = r/\Hnf C R r (fun k=>k) (opsF l1 F)/\∀a,a < R->∀b,r<=b->b < C->opsF l1 F a b = 0:=by
 have hz : ∀a,a < R->∀b,r<=b->b < C->opsF l1 F a b = 0:=fun a ha b h3 h4=>opsF_zero hl (fun a' ha'=>hF.hnf.zero b h3 h4 a' ha') a ha
 have hdet : det r (fun a b=>F a b) ≠ 0:=by
  rw [det_lower (F:=F) fun a ha b hb hab=>hF.hnf.ech.zero b hb a hab]
  have:=prodN_pos (n:=r) (f:=fun i=>F i i) fun i hi=>hF.hnf.ech.pos i hi
  omega
 obtain ⟨e1,e2⟩:=hnf_square (σ:=fun a=>a) h1 (fun a ha b _=>ops_back hl F a ha b) hz hF.hnf.le (fun a ha=>by have:=hF.le; omega) hdet
 subst e1
 exact ⟨rfl,h1.congr_c e2,hz⟩
def mu (r : Nat) (F : Nat->Nat->Int) : Int:=prodN r fun j=>prodN (j + 1) fun i=>F i i
theorem prodN_eq_of_dvd {n : Nat} {f g : Nat->Int} (hf : ∀i,i < n->0 < f i) (hg : ∀i,i < n->0 < g i) (hd : ∀i,i < n->f i ∣ g i) (h : prodN n f = prodN n g) : ∀i,i < n->f i = g i:=by
 induction n with
 | zero=>intro i hi; omega
 | succ n ih=>
  unfold prodN at h
  have h1:=prodN_pos (n:=n) (f:=f) fun i hi=>hf i oM
  have h2:=prodN_pos (n:=n) (f:=g) fun i hi=>hg i oM
  have h3:=Int.le_of_dvd h2 (prodN_dvd fun i hi=>hd i oM)
  have h4:=Int.le_of_dvd (hg n oM) (hd n oM)
  have h5:=hf n oM
  have h6 : prodN n f = prodN n g:=by
   refine Int.le_antisymm h3 ?_
   refine Int.not_lt.1 fun h7=>?_
   have : prodN n f * f n < prodN n g * f n:=Int.mul_lt_mul_of_pos_right h7 h5
   have : prodN n g * f n<=prodN n g * g n:=Int.mul_le_mul_of_nonneg_left h4 oM
   omega
  have h7 : f n = g n:=by
   rw [h6] at h
   exact Int.eq_of_mul_eq_mul_left oM h
  intro i hi
  by_cases e : i = n
  ·rw [e]; exact h7
  ·exact ih (fun i hi=>hf i oM) (fun i hi=>hg i oM) (fun i hi=>hd i oM) h6 i oM
theorem diag_of_prods {r : Nat} {f g : Nat->Int} (hg : ∀i,i < r->0 < g i) (h : ∀j,j<=r->prodN j f = prodN j g) : ∀i,i < r->f i = g i:=by
 intro i hi
 have h1:=h i oM
 have h2:=h (i + 1) oM
 unfold prodN at h2
 rw [h1] at h2
 have:=prodN_pos (n:=i) (f:=g) fun k hk=>hg k oM
 exact Int.eq_of_mul_eq_mul_left oM h2
theorem later {R C r h : Nat} {A : Nat->Nat->Int} {z : W5} {l1 l2 : List Op} {r1 : Nat} {c1 : Nat->Nat} {r2 : Nat} {c2 : Nat->Nat} (hR : R<=4) (hF : Low R C r z.s) (h1 : okOps R l1) (h2 : okOps C l2)
  (hn1 : Hnf C R r1 c1 (opsF l1 z.s)) (hn2 : Hnf R C r2 c2 (opsF l2 (trF (opsF l1 z.s)))) :
  Low R C r (rnd z l1 l2).s/\(mu r (rnd z l1 l2).s ∣ mu r z.s)/\(mu r (rnd z l1 l2).s = mu r z.s->diagF R C (rnd z l1 l2).s):=by
 obtain ⟨rfl,hH,hz⟩:=first hF h1 hn1
 obtain ⟨rfl,e2,hL⟩:=second hH h2 hn2
 have hn2':=hn2.congr_c e2
 have hpF : ∀i,i < r2->0 < z.s i i:=fun i hi=>hF.hnf.ech.pos i hi
 have hpH : ∀i,i < r2->0 < opsF l1 z.s i i:=fun i hi=>hH.ech.pos i hi
 have hpL : ∀i,i < r2->0 < (rnd z l1 l2).s i i:=fun i hi=>hL.hnf.ech.pos i hi
 have d1 : ∀j,j<=r2->prodN j (fun i=>opsF l1 z.s i i) ∣ prodN j (fun i=>z.s i i):=fun j hj=>hnf_dvd hH (fun a ha b _=>ops_back h1 z.s a ha b) hj fun a ha b hb hab=>hF.hnf.ech.zero b oM a hab
 have d2 : ∀j,j<=r2->prodN j (fun i=>(rnd z l1 l2).s i i) ∣ prodN j (fun i=>opsF l1 z.s i i):=fun j hj=>
  hnf_dvd (F:=trF (opsF l1 z.s)) (H:=opsF l2 (trF (opsF l1 z.s))) hn2' (fun a ha b _=>ops_back h2 _ a ha b) hj fun a ha b hb hab=>hH.ech.zero b oM a hab
 refine ⟨hL,prodN_dvd fun j hj=>Int.dvd_trans (d2 _ oM) (d1 _ oM),fun he=>?_⟩
 have g1:=prodN_eq_of_dvd (fun j hj=>prodN_pos fun i hi=>hpL i oM) (fun j hj=>prodN_pos fun i hi=>hpF i oM) (fun j hj=>Int.dvd_trans (d2 (j + 1) oM) (d1 (j + 1) oM)) he
 have g2 : ∀j,j<=r2->prodN j (fun i=>opsF l1 z.s i i) = prodN j (fun i=>(rnd z l1 l2).s i i):=fun j hj=>by
  cases j with
  | zero=>rfl
  | succ j=>
   have k1:=g1 j oM
   have k2:=Int.le_of_dvd (prodN_pos fun i hi=>hpH i oM) (d2 (j + 1) hj)
   have k3:=Int.le_of_dvd (prodN_pos fun i hi=>hpF i oM) (d1 (j + 1) hj)
   omega
 have g3:=diag_of_prods hpL g2
 have g4:=hnf_diag (F:=trF (opsF l1 z.s)) hn2' (fun a ha b _=>ops_back h2 _ a ha b) (fun a ha b hb hab=>hH.ech.zero b hb a hab) g3 hF.le
 intro a ha b hb hab
 show opsF l2 (trF (opsF l1 z.s)) b a = 0
 rcases Nat.lt_or_ge b r2 with k1 | k1
 ·rcases Nat.lt_or_ge a r2 with k2 | k2
  ·rcases Nat.lt_or_ge b a with k3 | k3
   ·exact g4 b k1 a k2 k3
   ·exact hn2'.ech.zero b k1 a (show a < b by omega)
  ·exact hL.row a k2 ha b hb
 ·exact hn2'.zero b k1 hb a ha
end Go.Proofs.YtnocgagoaldfnaaGreat
