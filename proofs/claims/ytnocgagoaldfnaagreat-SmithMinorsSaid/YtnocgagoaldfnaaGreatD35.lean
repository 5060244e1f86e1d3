/- smith's divide (the mirror): relations, bounds, and the chain of invariants. Plain Lean. -/
import Derived.Test.YtnocgagoaldfnaaGreatD28
import Derived.Test.YtnocgagoaldfnaaGreatD32
import Derived.Test.YtnocgagoaldfnaaGreatD34
set_option linter.unusedVariables false
set_option linter.unusedSimpArgs false
set_option linter.unusedSectionVars false
namespace Go.Proofs.YtnocgagoaldfnaaGreat
open Go.RowKit
theorem bezN : ∀m n : Nat,∃s t : Int,s * (m : Int) + t * (n : Int) = ((Nat.gcd m n : Nat) : Int):=by
 intro m
 induction m using Nat.strongRecOn with
 | ind m ih=>
  intro n
  rcases Nat.eq_zero_or_pos m with h | h
  ·subst h
   exact ⟨0,1,by rw [Nat.gcd_zero_left]; omega⟩
  ·obtain ⟨s,t,e⟩:=ih (n % m) (Nat.mod_lt _ h) m
   refine ⟨t - s * ((n / m : Nat) : Int),s,?_⟩
   rw [Nat.gcd_rec,<-e]
   have h2 : (n : Int) = (m : Int) * ((n / m : Nat) : Int) + ((n % m : Nat) : Int):=by
    have:=Nat.div_add_mod n m
    exact_mod_cast this.symm
   generalize ((n / m : Nat) : Int) = q at *
   generalize ((n % m : Nat) : Int) = r at *
   rw [h2]
   grind
theorem bezI {x y : Int} (hx : 0<=x) (hy : 0<=y) : ∃s t : Int,s * x + t * y = ((Int.gcd x y : Nat) : Int):=by
 obtain ⟨s,t,e⟩:=bezN x.natAbs y.natAbs
 refine ⟨s,t,?_⟩
 rw [show ((x.natAbs : Nat) : Int) = x by omega,show ((y.natAbs : Nat) : Int) = y by omega] at e
 exact e
def bl (f : Nat->Int) (i j : Nat) (m0 m1 m2 m3 : Int) (a : Nat) : Int:=if a = i then m0 * f i + m1 * f j else if a = j then m2 * f i + m3 * f j else f a
theorem blend_sum (n : Nat) (F : Nat->Nat->Int) (i j : Nat) (m0 m1 m2 m3 : Int) (X : Nat->Int) (a : Nat) :
  sumN n (fun t=>blendF F i j m0 m1 m2 m3 a t * X t) = bl (fun a=>sumN n fun t=>F a t * X t) i j m0 m1 m2 m3 a:=by
 unfold bl blendF
 split
 ·rw [<-sumN_mul,<-sumN_mul,<-sumN_add]
  exact sumN_congr fun t ht=>by rw [Int.add_mul,Int.mul_assoc,Int.mul_assoc]
 ·split
  ·rw [<-sumN_mul,<-sumN_mul,<-sumN_add]
   exact sumN_congr fun t ht=>by rw [Int.add_mul,Int.mul_assoc,Int.mul_assoc]
  ·rfl
theorem blend_sumr (n : Nat) (F : Nat->Nat->Int) (i j : Nat) (m0 m1 m2 m3 : Int) (X : Nat->Int) (a : Nat) :
  sumN n (fun t=>X t * blendF F i j m0 m1 m2 m3 a t) = bl (fun a=>sumN n fun t=>X t * F a t) i j m0 m1 m2 m3 a:=by
 rw [sumN_congr (g:=fun t=>blendF F i j m0 m1 m2 m3 a t * X t) (fun t ht=>Int.mul_comm _ _),blend_sum]
 unfold bl
 dsimp only
 rw [sumN_congr (g:=fun t=>F i t * X t) (f:=fun t=>X t * F i t) (fun t ht=>Int.mul_comm _ _),sumN_congr (g:=fun t=>F j t * X t) (f:=fun t=>X t * F j t) (fun t ht=>Int.mul_comm _ _),sumN_congr (g:=fun t=>F a t * X t) (f:=fun t=>X t * F a t) (fun t ht=>Int.mul_comm _ _)]
theorem blend_dot {n i j : Nat} {P Q : Nat->Nat->Int} {m0 m1 m2 m3 n0 n1 n2 n3 : Int} (hi : i < n) (hj : j < n) (hij : i ≠ j) (h : ∀a,a < n->∀b,b < n->dot n P Q a b = idf a b)
  (e0 : m0 * n0 + m1 * n1 = 1) (e1 : m0 * n2 + m1 * n3 = 0) (e2 : m2 * n0 + m3 * n1 = 0) (e3 : m2 * n2 + m3 * n3 = 1) : ∀a,a < n->∀b,b < n->dot n (blendF P i j m0 m1 m2 m3) (blendF Q i j n0 n1 n2 n3) a b = idf a b:=by
 intro a ha b hb
 unfold dot
 rw [blend_sum]
 have e : ∀a,a < n->sumN n (fun t=>P a t * blendF Q i j n0 n1 n2 n3 b t) = bl (fun b=>idf a b) i j n0 n1 n2 n3 b:=fun a ha=>by
  rw [blend_sumr]
  have g : ∀b,b < n->sumN n (fun t=>P a t * Q b t) = idf a b:=fun b hb=>h a ha b hb
  unfold bl
  dsimp only
  rw [g i hi,g j hj,g b hb]
 have hji : ¬ j = i:=fun h=>hij h.symm
 unfold bl
 dsimp only
 rw [e i hi,e j hj,e a ha]
 unfold bl idf
 by_cases a1 : a = i
 ·by_cases b1 : b = i
  ·subst a1; subst b1; simp [hij,hji]; omega
  ·by_cases b2 : b = j
   ·subst a1; subst b2; simp [hij,hji]; omega
   ·have b3 : ¬ i = b:=fun h=>b1 h.symm
    have b4 : ¬ j = b:=fun h=>b2 h.symm
    subst a1; simp [b1,b2,b3,b4]
 ·by_cases a2 : a = j
  ·by_cases b1 : b = i
   ·subst a2; subst b1; simp [hij,hji]; omega
   ·by_cases b2 : b = j
    ·subst a2; subst b2; simp [hij,hji]; omega
    ·have b3 : ¬ i = b:=fun h=>b1 h.symm
     have b4 : ¬ j = b:=fun h=>b2 h.symm
     subst a2; simp [b1,b2,b3,b4,hji]
  ·by_cases b1 : b = i
   ·subst b1; simp [a1,a2]
   ·by_cases b2 : b = j
    ·subst b2; simp [a1,a2,hji]
    ·simp [a1,a2,b1,b2]
theorem sum_shift2 {n i j : Nat} {f g : Nat->Int} (hi : i < n) (hj : j < n) (hij : i ≠ j) (h : ∀t,t < n->t ≠ i->t ≠ j->f t = g t) (h1 : f i + f j = g i + g j) : sumN n f = sumN n g:=
 sum_shift (d:=f i - g i) hi hj hij h oM oM
theorem blend_cod {n i j : Nat} {P Q : Nat->Nat->Int} {m0 m1 m2 m3 n0 n1 n2 n3 : Int} (hi : i < n) (hj : j < n) (hij : i ≠ j)
  (e0 : n0 * m0 + n2 * m2 = 1) (e1 : n0 * m1 + n2 * m3 = 0) (e2 : n1 * m0 + n3 * m2 = 0) (e3 : n1 * m1 + n3 * m3 = 1) (a b : Nat) : cod n (blendF Q i j n0 n1 n2 n3) (blendF P i j m0 m1 m2 m3) a b = cod n Q P a b:=by
 refine sum_shift2 hi hj hij (fun t ht h1 h2=>?_) ?_
 ·unfold blendF; rw [if_neg h1,if_neg h1,if_neg h2,if_neg h2]
 ·unfold blendF
  have hji : ¬ j = i:=fun h=>hij h.symm
  simp only [if_true,if_neg hji]
  generalize P i b = p
  generalize P j b = q
  generalize Q i a = r
  generalize Q j a = s
  have : (n0 * r + n1 * s) * (m0 * p + m1 * q) + (n2 * r + n3 * s) * (m2 * p + m3 * q) = r * p * (n0 * m0 + n2 * m2) + r * q * (n0 * m1 + n2 * m3) + s * p * (n1 * m0 + n3 * m2) + s * q * (n1 * m1 + n3 * m3):=by grind
  rw [this,e0,e1,e2,e3]
  omega
theorem divW_rel {R C i j : Nat} {A : Nat->Nat->Int} {z : W5} {s t : Int} (h : Rel R C A z) (hd : diagF R C z.s) (hij : i < j) (hj : j < min R C) (hg : Int.gcd (z.s i i) (z.s j j) ≠ 0) (hb : s * z.s i i + t * z.s j j = ((Int.gcd (z.s i i) (z.s j j) : Nat) : Int)) : Rel R C A (divW z i j s t):=by
 obtain ⟨u0,hu0⟩ : (((Int.gcd (z.s i i) (z.s j j) : Nat) : Int)) ∣ z.s i i:=Int.gcd_dvd_left ..
 obtain ⟨v,hv⟩ : (((Int.gcd (z.s i i) (z.s j j) : Nat) : Int)) ∣ z.s j j:=Int.gcd_dvd_right ..
 obtain ⟨g,hgg⟩ : ∃g : Int,((Int.gcd (z.s i i) (z.s j j) : Nat) : Int) = g:=⟨_,rfl⟩
 have hg0 : g ≠ 0:=by rw [<-hgg]; omega
 rw [hgg] at hb hu0 hv
 have q1 : z.s i i / g = u0:=by rw [hu0]; exact Int.mul_ediv_cancel_left _ hg0
 have q2 : z.s j j / g = v:=by rw [hv]; exact Int.mul_ediv_cancel_left _ hg0
 have hstuv : s * u0 + t * v = 1:=by
  have : g * (s * u0 + t * v) = g * 1:=by rw [hu0,hv] at hb; grind
  exact Int.eq_of_mul_eq_mul_left hg0 this
 have hi' : i < R/\i < C/\j < R/\j < C:=by omega
 obtain ⟨hiR,hiC,hjR,hjC⟩:=hi'
 have hne : i ≠ j:=by omega
 have hji : ¬ j = i:=by omega
 refine ⟨fun a ha b hb'=>?_,?_,fun a ha b hb'=>?_,?_,fun a ha b hb'=>?_⟩
 ·show divS z.s i j a b = sumN R fun s'=>blendF z.u i j s t (-(z.s j j / _)) (z.s i i / _) a s' * sumN C fun t'=>A s' t' * blendF z.w i j 1 1 (-(t * (z.s j j / _))) (1 - t * (z.s j j / _)) b t'
  unfold divS
  rw [hgg,q1,q2]
  have e1 : ∀s',sumN C (fun t'=>A s' t' * blendF z.w i j 1 1 (-(t * v)) (1 - t * v) b t') = bl (fun b=>sumN C fun t'=>A s' t' * z.w b t') i j 1 1 (-(t * v)) (1 - t * v) b:=fun s'=>blend_sumr _ _ _ _ _ _ _ _ _ _
  simp only [e1]
  rw [blend_sum]
  have e2 : ∀a,a < R->sumN R (fun s'=>z.u a s' * bl (fun b=>sumN C fun t'=>A s' t' * z.w b t') i j 1 1 (-(t * v)) (1 - t * v) b) = bl (fun b=>z.s a b) i j 1 1 (-(t * v)) (1 - t * v) b:=fun a ha=>by
   have g1 : ∀b,b < C->z.s a b = sumN R fun s=>z.u a s * sumN C fun t=>A s t * z.w b t:=fun b hb=>h.s a ha b hb
   unfold bl
   dsimp only
   split
   ·rw [g1 i hiC,g1 j hjC,<-sumN_mul,<-sumN_mul,<-sumN_add]
    exact sumN_congr fun s' _=>by rw [Int.mul_add,Int.mul_left_comm (z.u a s'),Int.mul_left_comm (z.u a s')]
   ·split
    ·rw [g1 i hiC,g1 j hjC,<-sumN_mul,<-sumN_mul,<-sumN_add]
     exact sumN_congr fun s' _=>by rw [Int.mul_add,Int.mul_left_comm (z.u a s'),Int.mul_left_comm (z.u a s')]
    ·rw [g1 b hb']
  have hout : bl (fun a=>sumN R fun s'=>z.u a s' * bl (fun b=>sumN C fun t'=>A s' t' * z.w b t') i j 1 1 (-(t * v)) (1 - t * v) b) i j s t (-v) u0 a = bl (fun a=>bl (fun b=>z.s a b) i j 1 1 (-(t * v)) (1 - t * v) b) i j s t (-v) u0 a:=by
   unfold bl at *
   dsimp only at *
   rw [e2 i hiR,e2 j hjR,e2 a ha]
  rw [hout]
  have zij : z.s i j = 0:=hd i hiR j hjC hne
  have zji : z.s j i = 0:=hd j hjR i hiC hji
  unfold bl
  dsimp only
  by_cases a1 : a = i
  ·subst a1
   by_cases b1 : b = a
   ·subst b1
    rw [if_neg oM,if_pos ⟨rfl,rfl⟩,if_pos rfl,if_pos rfl,if_pos rfl,zij,zji,<-hb]
    grind
   ·by_cases b2 : b = j
    ·subst b2
     rw [if_neg oM,if_neg oM,if_pos rfl,if_neg hji,if_neg hji,if_pos rfl,if_pos rfl,zji,zij]
     have : s * (-(t * v) * z.s a a + (1 - t * v) * 0) + t * (-(t * v) * 0 + (1 - t * v) * z.s b b) = -(t * v) * (s * z.s a a + t * z.s b b) + t * z.s b b:=by grind
     rw [this,hb,hv]
     grind
    ·have h1 : z.s a b = 0:=hd a ha b hb' (fun e=>b1 e.symm)
     have h2 : z.s j b = 0:=hd j hjR b hb' (fun e=>b2 e.symm)
     rw [if_neg oM,if_neg oM,if_pos rfl,if_neg b1,if_neg b2,if_neg b1,if_neg b2,h1,h2]
     omega
  ·by_cases a2 : a = j
   ·subst a2
    by_cases b1 : b = i
    ·subst b1
     rw [if_neg oM,if_neg oM,if_neg a1,if_pos rfl,if_pos rfl,if_pos rfl,zij,zji]
     have : -v * (1 * z.s b b + 1 * 0) + u0 * (1 * 0 + 1 * z.s a a) = u0 * z.s a a - v * z.s b b:=by grind
     rw [this,hu0,hv]
     grind
    ·by_cases b2 : b = a
     ·subst b2
      rw [if_pos ⟨rfl,rfl⟩,if_neg a1,if_pos rfl,if_neg b1,if_neg b1,if_pos rfl,if_pos rfl,zij,zji]
      have : -v * (-(t * v) * z.s i i + (1 - t * v) * 0) + u0 * (-(t * v) * 0 + (1 - t * v) * z.s b b) = t * v * v * z.s i i + (1 - t * v) * u0 * z.s b b:=by grind
      rw [this,hu0,hv]
      grind
     ·have h1 : z.s i b = 0:=hd i hiR b hb' (fun e=>b1 e.symm)
      have h2 : z.s a b = 0:=hd a ha b hb' (fun e=>b2 e.symm)
      rw [if_neg oM,if_neg oM,if_neg a1,if_pos rfl,if_neg b1,if_neg b2,if_neg b1,if_neg b2,h1,h2]
      omega
   ·rw [if_neg oM,if_neg oM,if_neg a1,if_neg a2]
    by_cases b1 : b = i
    ·subst b1
     rw [if_pos rfl,hd a ha b hb' a1,hd a ha j hjC a2]
     omega
    ·by_cases b2 : b = j
     ·subst b2
      rw [if_neg b1,if_pos rfl,hd a ha b hb' a2,hd a ha i hiC a1]
      omega
     ·rw [if_neg b1,if_neg b2]
 ·show ∀a,a < R->∀b,b < R->dot R (blendF z.u i j s t (-(z.s j j / _)) (z.s i i / _)) (blendF z.v i j (z.s i i / _) (z.s j j / _) (-t) s) a b = idf a b
  rw [hgg,q1,q2]
  exact blend_dot hiR hjR hne h.uv hstuv (by grind) (by grind) (by grind)
 ·show cod R (blendF z.v i j (z.s i i / _) (z.s j j / _) (-t) s) (blendF z.u i j s t (-(z.s j j / _)) (z.s i i / _)) a b = idf a b
  rw [hgg,q1,q2,blend_cod hiR hjR hne (by grind) (by grind) (by grind) (by grind)]
  exact h.vu a ha b hb'
 ·show ∀a,a < C->∀b,b < C->dot C (blendF z.w i j 1 1 (-(t * (z.s j j / _))) (1 - t * (z.s j j / _))) (blendF z.x i j (1 - t * (z.s j j / _)) (t * (z.s j j / _)) (-1) 1) a b = idf a b
  rw [hgg,q2]
  exact blend_dot hiC hjC hne h.wx (by grind) (by grind) (by grind) (by grind)
 ·show cod C (blendF z.x i j (1 - t * (z.s j j / _)) (t * (z.s j j / _)) (-1) 1) (blendF z.w i j 1 1 (-(t * (z.s j j / _))) (1 - t * (z.s j j / _))) a b = idf a b
  rw [hgg,q2,blend_cod hiC hjC hne (by grind) (by grind) (by grind) (by grind)]
  exact h.xw a ha b hb'
structure Dg (R C r : Nat) (F : Nat->Nat->Int) : Prop where
 off : diagF R C F
 pos : ∀i,i < r->0 < F i i
 zero : ∀i,r<=i->i < min R C->F i i = 0
 le : r<=min R C
theorem Low.dg {R C r : Nat} {F : Nat->Nat->Int} (h : Low R C r F) (hd : diagF R C F) : Dg R C r F:=
 ⟨hd,fun i hi=>h.hnf.ech.pos i hi,fun i h1 h2=>h.row i h1 oM i oM,by have:=h.le; have:=h.hnf.le; omega⟩
theorem Dg.both {R C r i j : Nat} {F : Nat->Nat->Int} (h : Dg R C r F) (hij : i < j) (hj : j < min R C) (hn : ¬ F i i ∣ F j j) : j < r/\0 < F i i/\0 < F j j:=by
 have hjr : j < r:=by
  rcases Nat.lt_or_ge j r with h1 | h1
  ·exact h1
  ·rw [h.zero j h1 hj] at hn
   exact absurd (Int.dvd_zero _) hn
 exact ⟨hjr,h.pos i oM,h.pos j hjr⟩
theorem divS_ii {F : Nat->Nat->Int} {i j : Nat} (hij : i < j) : divS F i j i i = ((Int.gcd (F i i) (F j j) : Nat) : Int):=by
 unfold divS; rw [if_neg oM,if_pos ⟨rfl,rfl⟩]
theorem divS_jj {F : Nat->Nat->Int} {i j : Nat} : divS F i j j j = F i i * (F j j / ((Int.gcd (F i i) (F j j) : Nat) : Int)):=by
 unfold divS; rw [if_pos ⟨rfl,rfl⟩]
theorem divS_ne {F : Nat->Nat->Int} {i j a b : Nat} (h1 : ¬ (a = j/\b = j)) (h2 : ¬ (a = i/\b = i)) : divS F i j a b = F a b:=by
 unfold divS; rw [if_neg h1,if_neg h2]
theorem gcd_facts {x y : Int} (hx : 0 < x) (hy : 0 < y) : ∃g u v : Int,((Int.gcd x y : Nat) : Int) = g/\0 < g/\x = g * u/\y = g * v/\0 < u/\0 < v/\x / g = u/\y / g = v:=by
 obtain ⟨u,hu⟩ : (((Int.gcd x y : Nat) : Int)) ∣ x:=Int.gcd_dvd_left ..
 obtain ⟨v,hv⟩ : (((Int.gcd x y : Nat) : Int)) ∣ y:=Int.gcd_dvd_right ..
 have h0 : 0 < ((Int.gcd x y : Nat) : Int):=by
  have : Int.gcd x y ≠ 0:=fun h=>by rw [Int.gcd_eq_zero_iff] at h; omega
  omega
 generalize hg : ((Int.gcd x y : Nat) : Int) = g at *
 have hu0 : 0 < u:=by
  rcases Int.lt_or_le 0 u with h | h
  ·exact h
  ·have:=Int.mul_nonpos_of_nonneg_of_nonpos (Int.le_of_lt h0) h; omega
 have hv0 : 0 < v:=by
  rcases Int.lt_or_le 0 v with h | h
  ·exact h
  ·have:=Int.mul_nonpos_of_nonneg_of_nonpos (Int.le_of_lt h0) h; omega
 exact ⟨g,u,v,rfl,h0,hu,hv,hu0,hv0,by rw [hu]; exact Int.mul_ediv_cancel_left _ oM,by rw [hv]; exact Int.mul_ediv_cancel_left _ oM⟩
theorem Dg.step {R C r i j : Nat} {F : Nat->Nat->Int} (h : Dg R C r F) (hij : i < j) (hj : j < min R C) (hn : ¬ F i i ∣ F j j) : Dg R C r (divS F i j):=by
 obtain ⟨h1,h2,h3⟩:=h.both hij hj hn
 obtain ⟨g,u,v,e1,e2,e3,e4,e5,e6,e7,e8⟩:=gcd_facts h2 h3
 refine ⟨fun a ha b hb hab=>?_,fun k hk=>?_,fun k h4 h5=>?_,h.le⟩
 ·rw [divS_ne oM oM]; exact h.off a ha b hb hab
 ·by_cases k1 : k = i
  ·rw [k1,divS_ii hij,e1]; exact e2
  ·by_cases k2 : k = j
   ·rw [k2,divS_jj,e1,e8]; exact Int.mul_pos h2 e6
   ·rw [divS_ne oM oM]; exact h.pos k hk
 ·rw [divS_ne oM oM]; exact h.zero k h4 h5
theorem divS_prod {r i j : Nat} {F : Nat->Nat->Int} (hij : i < j) (h2 : 0 < F i i) (h3 : 0 < F j j) : ∃u : Int,F i i = ((Int.gcd (F i i) (F j j) : Nat) : Int) * u/\0 < u ∧
  ∀m,prodN m (fun k=>divS F i j k k) * (if i < m/\m<=j then u else 1) = prodN m (fun k=>F k k):=by
 obtain ⟨g,u,v,e1,e2,e3,e4,e5,e6,e7,e8⟩:=gcd_facts h2 h3
 refine ⟨u,by rw [e1]; exact e3,e5,fun m=>?_⟩
 induction m with
 | zero=>rw [if_neg oM]; rfl
 | succ m ih=>
  show prodN m (fun k=>divS F i j k k) * divS F i j m m * _ = prodN m (fun k=>F k k) * F m m
  by_cases k1 : m = i
  ·subst k1
   rw [if_neg oM,Int.mul_one] at ih
   rw [divS_ii hij,e1,if_pos oM,ih,Int.mul_assoc,<-e3]
  ·by_cases k2 : m = j
   ·subst k2
    rw [if_pos oM] at ih
    rw [divS_jj,e1,e8,if_neg oM,Int.mul_one,<-ih,e3]
    have : F m m = g * v:=e4
    rw [this]
    grind
   ·rw [divS_ne oM oM,<-ih]
    by_cases k3 : i < m/\m<=j
    ·rw [if_pos k3,if_pos oM]
     grind
    ·rw [if_neg k3,if_neg oM]
     grind
theorem divS_mu {R C r i j : Nat} {F : Nat->Nat->Int} (h : Dg R C r F) (hij : i < j) (hj : j < min R C) (hn : ¬ F i i ∣ F j j) : 2 * mu r (divS F i j)<=mu r F/\prodN r (fun k=>divS F i j k k) = prodN r (fun k=>F k k):=by
 obtain ⟨h1,h2,h3⟩:=h.both hij hj hn
 have hs:=h.step hij hj hn
 obtain ⟨u,e1,e2,e3⟩:=divS_prod (r:=r) hij h2 h3
 have hdv : ∀m,prodN m (fun k=>divS F i j k k) ∣ prodN m (fun k=>F k k):=fun m=>⟨_,(e3 m).symm⟩
 refine ⟨half_of_dvd (prodN_pos fun a ha=>prodN_pos fun b hb=>hs.pos b oM) (prodN_pos fun a ha=>prodN_pos fun b hb=>h.pos b oM) (prodN_dvd fun a ha=>hdv _) (fun he=>?_),?_⟩
 ·have g1:=prodN_eq_of_dvd (fun a ha=>prodN_pos fun b hb=>hs.pos b oM) (fun a ha=>prodN_pos fun b hb=>h.pos b oM) (fun a ha=>hdv (a + 1)) he i oM
  have g2:=e3 (i + 1)
  rw [if_pos oM,<-g1] at g2
  have g3 : 0 < prodN (i + 1) (fun k=>divS F i j k k):=prodN_pos fun b hb=>hs.pos b oM
  have g4 : u = 1:=Int.eq_of_mul_eq_mul_left (a:=prodN (i + 1) fun k=>divS F i j k k) oM (by rw [g2,Int.mul_one])
  rw [g4,Int.mul_one] at e1
  exact hn (by rw [e1]; exact Int.gcd_dvd_right ..)
 ·have:=e3 r
  rwa [if_neg oM,Int.mul_one] at this
theorem abs_mul_le {x y : Int} {X Y : Nat} (hx : x.natAbs<=X) (hy : y.natAbs<=Y) : (x * y).natAbs<=X * Y:=by
 rw [Int.natAbs_mul]; exact Nat.mul_le_mul hx hy
theorem leM_blend {n C i j K M : Nat} {F : Nat->Nat->Int} {m0 m1 m2 m3 : Int} (h : leM M n C F) (hi : i < n) (hj : j < n) (hK : 1<=K) (h0 : m0.natAbs<=K) (h1 : m1.natAbs<=K) (h2 : m2.natAbs<=K) (h3 : m3.natAbs<=K) :
  leM (M * (2 * K)) n C (blendF F i j m0 m1 m2 m3):=by
 intro a ha b hb
 have e : M * (2 * K) = K * M + K * M:=by rw [Nat.mul_comm,Nat.mul_assoc]; omega
 have q1:=abs_mul_le h0 (h i hi b hb)
 have q2:=abs_mul_le h1 (h j hj b hb)
 have q3:=abs_mul_le h2 (h i hi b hb)
 have q4:=abs_mul_le h3 (h j hj b hb)
 have q5:=h a ha b hb
 have q6 : M<=K * M:=Nat.le_mul_of_pos_left _ hK
 unfold blendF
 split
 ·omega
 ·split <;> omega
theorem okTw_of {B C K M i j n : Nat} {F : Nat->Nat->Int} {m0 m1 m2 m3 : Int} (h : leM M n C F) (hi : i < n) (hj : j < n) (hK : 1<=K) (hM : 1<=M) (hB : M * (2 * K) < B) (h0 : m0.natAbs<=K) (h1 : m1.natAbs<=K) (h2 : m2.natAbs<=K) (h3 : m3.natAbs<=K) : okTw B C F i j m0 m1 m2 m3:=by
 have e : M * (2 * K) = K * M + K * M:=by rw [Nat.mul_comm,Nat.mul_assoc]; omega
 have q6 : M<=K * M:=Nat.le_mul_of_pos_left _ hK
 have q7 : K<=K * M:=Nat.le_mul_of_pos_right _ hM
 refine ⟨by omega,by omega,by omega,by omega,fun t ht=>?_⟩
 have g1:=h i hi t ht
 have g2:=h j hj t ht
 have q1:=abs_mul_le h0 g1
 have q2:=abs_mul_le h1 g2
 have q3:=abs_mul_le h2 g1
 have q4:=abs_mul_le h3 g2
 exact ⟨by omega,by omega,by omega,by omega,by omega,by omega⟩
structure DivI (M T R C Cu Cw r e : Nat) (y0 y : W5) : Prop where
 dg : Dg R C r y.s
 muh : mu r y.s * 2 ^ e<=mu r y0.s
 prod : prodN r (fun k=>y.s k k) = prodN r (fun k=>y0.s k k)
 u : leM (M * (4 * T * T) ^ e) R Cu y.u
 v : leM (M * (4 * T * T) ^ e) R Cu y.v
 w : leM (M * (4 * T * T) ^ e) C Cw y.w
 x : leM (M * (4 * T * T) ^ e) C Cw y.x
theorem Dg.small {R C r T : Nat} {F : Nat->Nat->Int} (h : Dg R C r F) (hT : (prodN r (fun k=>F k k)).natAbs<=T) : leM T R C F:=by
 intro a ha b hb
 by_cases e : a = b
 ·subst e
  rcases Nat.lt_or_ge a r with h1 | h1
  ·have h2:=prod_ge h.pos h1
   have h3:=h.pos a h1
   omega
  ·rw [h.zero a h1 oM]; omega
 ·rw [h.off a ha b hb e]; omega
theorem div_coef {T : Nat} {x y g u v s t : Int} (hx : 0 < x) (hy : 0 < y) (hxT : x.natAbs<=T) (hyT : y.natAbs<=T) (hg : g = ((Int.gcd x y : Nat) : Int)) (hu : u = x / g) (hv : v = y / g) (hb : Bez x y s t) :
  s.natAbs<=2 * T * T/\t.natAbs<=2 * T * T/\u.natAbs<=2 * T * T/\v.natAbs<=2 * T * T/\(t * v).natAbs<=2 * T * T/\(1 - t * v).natAbs<=2 * T * T/\(x * v).natAbs<=T * T:=by
 obtain ⟨g',u',v',e1,e2,e3,e4,e5,e6,e7,e8⟩:=gcd_facts hx hy
 obtain rfl : g = g':=by rw [hg]; exact e1
 obtain rfl : u = u':=by rw [hu]; exact e7
 obtain rfl : v = v':=by rw [hv]; exact e8
 obtain ⟨-,b1,b2⟩:=hb
 have hT1 : 1<=T:=by omega
 have hTT : T<=T * T:=Nat.le_mul_of_pos_left _ hT1
 have h2 : 2 * T * T = T * T + T * T:=by rw [Nat.mul_assoc]; omega
 have gu : u<=x:=by rw [e3]; have : 1 * u<=g * u:=Int.mul_le_mul_of_nonneg_right oM oM; omega
 have gv : v<=y:=by rw [e4]; have : 1 * v<=g * v:=Int.mul_le_mul_of_nonneg_right oM oM; omega
 have q1 : (t * v).natAbs<=T * T:=abs_mul_le oM oM
 have q2 : (x * v).natAbs<=T * T:=abs_mul_le hxT oM
 refine ⟨by omega,by omega,by omega,by omega,by omega,by omega,q2⟩
theorem div_keeps {M T R C Cu Cw r : Nat} {y0 : W5} (hT : (prodN r (fun k=>y0.s k k)).natAbs<=T) (hT1 : 1<=T) (h0 : Dg R C r y0.s) (hu : leM M R Cu y0.u) (hv : leM M R Cu y0.v) (hw : leM M C Cw y0.w) (hx : leM M C Cw y0.x) {y : W5} (h : DivR (min R C) y0 y) : ∃e,DivI M T R C Cu Cw r e y0 y:=by
 induction h with
 | refl=>exact ⟨0,h0,by simp,rfl,by simpa using hu,by simpa using hv,by simpa using hw,by simpa using hx⟩
 | step y i j s t hr hij hj hn hb ih=>
  obtain ⟨e,hI⟩:=ih
  obtain ⟨b1,b2,b3⟩:=hI.dg.both hij hj hn
  have hsm:=hI.dg.small (T:=T) (by rw [hI.prod]; exact hT)
  obtain ⟨c1,c2,c3,c4,c5,c6,c7⟩:=div_coef b2 b3 (hsm i oM i oM) (hsm j oM j oM) rfl rfl rfl hb
  have hK : 1<=2 * T * T:=Nat.mul_pos oM hT1
  have hpe : M * (4 * T * T) ^ e * (2 * (2 * T * T)) = M * (4 * T * T) ^ (e + 1):=by
   rw [Nat.pow_succ,Nat.mul_assoc]
   congr 2
   rw [<-Nat.mul_assoc,<-Nat.mul_assoc]
  obtain ⟨m1,m2⟩:=divS_mu hI.dg hij hj hn
  refine ⟨e + 1,hI.dg.step hij hj hn,?_,m2.trans hI.prod,?_,?_,?_,?_⟩
  ·refine Int.le_trans ?_ hI.muh
   have h2 : (0 : Int)<=2 ^ e:=Int.pow_nonneg oM
   have h3 : (2 : Int) ^ (e + 1) = 2 * 2 ^ e:=by rw [Int.pow_succ,Int.mul_comm]
   show mu r (divS y.s i j) * 2 ^ (e + 1)<=_
   rw [h3,<-Int.mul_assoc]
   refine Int.mul_le_mul_of_nonneg_right ?_ h2
   omega
  ·have:=leM_blend (K:=2 * T * T) hI.u (show i < R by omega) (show j < R by omega) hK c1 c2 (by rw [Int.natAbs_neg]; exact c4) c3
   rwa [hpe] at this
  ·have:=leM_blend (K:=2 * T * T) hI.v (show i < R by omega) (show j < R by omega) hK c3 c4 (m2:=-t) (by rw [Int.natAbs_neg]; exact c2) c1
   rwa [hpe] at this
  ·have:=leM_blend (K:=2 * T * T) (m0:=1) (m1:=1) hI.w (show i < C by omega) (show j < C by omega) hK hK hK (by rw [Int.natAbs_neg]; exact c5) c6
   rwa [hpe] at this
  ·have:=leM_blend (K:=2 * T * T) (m2:=-1) (m3:=1) hI.x (show i < C by omega) (show j < C by omega) hK c6 c5 (by rw [Int.natAbs_neg]; exact hK) hK
   rwa [hpe] at this
theorem DivI.few {M T R C Cu Cw r e N : Nat} {y0 y : W5} (h : DivI M T R C Cu Cw r e y0 y) (hN : mu r y0.s < 2 ^ N) : e < N:=by
 have h1:=h.muh
 have h2 : 0 < mu r y.s:=prodN_pos fun a ha=>prodN_pos fun b hb=>h.dg.pos b oM
 have h3 : (0 : Int)<=2 ^ e:=Int.pow_nonneg oM
 have h4 : 1 * (2 : Int) ^ e<=mu r y.s * 2 ^ e:=Int.mul_le_mul_of_nonneg_right oM h3
 refine Nat.lt_of_not_le fun h5=>?_
 have h6 : (2 : Nat) ^ N<=2 ^ e:=le_pow2 oM h5
 have e1 : ((2 ^ N : Nat) : Int) = (2 : Int) ^ N:=by rw [Int.natCast_pow]; rfl
 have e2 : ((2 ^ e : Nat) : Int) = (2 : Int) ^ e:=by rw [Int.natCast_pow]; rfl
 omega
theorem div_oks {B M T R C Cu Cw r N : Nat} {y0 : W5} (hT : (prodN r (fun k=>y0.s k k)).natAbs<=T) (hT1 : 1<=T) (hM1 : 1<=M) (h0 : Dg R C r y0.s) (hu : leM M R Cu y0.u) (hv : leM M R Cu y0.v) (hw : leM M C Cw y0.w) (hx : leM M C Cw y0.x) (hN : mu r y0.s < 2 ^ N)
  (hB : M * (4 * T * T) ^ (N + 1) < B) {y : W5} (h : DivR (min R C) y0 y) :
  okW B R C Cu Cw y/\∀i j,i < j->j < min R C->¬ y.s i i ∣ y.s j j->DivOk B C Cu Cw y i j:=by
 obtain ⟨e,hI⟩:=div_keeps hT hT1 h0 hu hv hw hx h
 have he:=hI.few hN
 have hQ : 1<=4 * T * T:=Nat.mul_pos oM hT1
 have hMe : M * (4 * T * T) ^ e * (4 * T * T)<=M * (4 * T * T) ^ (N + 1):=by
  rw [Nat.mul_assoc,<-Nat.pow_succ]
  exact Nat.mul_le_mul_left _ (le_pow2 hQ oM)
 have hMB:=Nat.lt_of_le_of_lt hMe hB
 have hM1' : 1<=M * (4 * T * T) ^ e:=Nat.mul_pos hM1 (Nat.pow_pos oM)
 have hsm:=hI.dg.small (T:=T) (by rw [hI.prod]; exact hT)
 have gu:=hI.u
 have gv:=hI.v
 have gw:=hI.w
 have gx:=hI.x
 have hdg:=hI.dg
 clear hMe hB hI hN hu hv hw hx he
 generalize M * (4 * T * T) ^ e = M' at hMB hM1' gu gv gw gx
 have hTT : T<=T * T:=Nat.le_mul_of_pos_left _ hT1
 have h4Q : 4 * T * T = 2 * (2 * T * T):=by rw [<-Nat.mul_assoc,<-Nat.mul_assoc]
 have h2Q : 2 * T * T = 2 * (T * T):=Nat.mul_assoc _ _ _
 rw [h4Q,h2Q] at hMB
 have hM0 : M'<=M' * (2 * (2 * (T * T))):=Nat.le_mul_of_pos_right _ oM
 have hQ2 : 2 * (2 * (T * T))<=M' * (2 * (2 * (T * T))):=Nat.le_mul_of_pos_left _ hM1'
 refine ⟨⟨hsm.ok oM,gu.ok oM,gv.ok oM,gw.ok oM,gx.ok oM⟩,fun i j hij hj hn=>?_⟩
 obtain ⟨b1,b2,b3⟩:=hdg.both hij hj hn
 have s1:=hsm i oM i oM
 have s2:=hsm j oM j oM
 refine ⟨⟨by omega,by omega⟩,fun h=>by rw [Int.gcd_eq_zero_iff] at h; omega,fun g u v s t hg hu' hv' hb=>?_⟩
 obtain ⟨c1,c2,c3,c4,c5,c6,c7⟩:=div_coef b2 b3 s1 s2 hg hu' hv' hb
 rw [h2Q] at c1 c2 c3 c4 c5 c6
 have hK : 1<=2 * (T * T):=by omega
 have n1 : ∀z : Int,z.natAbs<=2 * (T * T)->(-z).natAbs<=2 * (T * T):=fun z h=>by rw [Int.natAbs_neg]; exact h
 have k1 : (1 : Int).natAbs<=2 * (T * T):=hK
 have q1 : T * T < B:=by omega
 have q2 : 2 * (T * T) < B:=by omega
 have iR : i < R:=by omega
 have jR : j < R:=by omega
 have iC : i < C:=by omega
 have jC : j < C:=by omega
 clear hu' hv' hb hg
 refine ⟨Nat.lt_of_le_of_lt c7 q1,Nat.lt_of_le_of_lt c5 q2,?_,?_,?_,?_⟩
 ·exact okTw_of gu iR jR hK hM1' hMB c1 c2 (n1 _ c4) c3
 ·exact okTw_of gv iR jR hK hM1' hMB c3 c4 (n1 _ c2) c1
 ·exact okTw_of gw iC jC hK hM1' hMB k1 k1 (n1 _ c5) c6
 ·exact okTw_of gx iC jC hK hM1' hMB c6 c5 (n1 _ k1) k1
def Chn (i n : Nat) (F : Nat->Nat->Int) : Prop:=∀a b,i<=a->a < b->b < n->F a a ∣ F b b
theorem divS_all {F : Nat->Nat->Int} {i j k n : Nat} {d : Int} (hij : i < j) (hik : k<=i) (hjn : j < n) (h : ∀a,k<=a->a < n->d ∣ F a a) : ∀a,k<=a->a < n->d ∣ divS F i j a a:=by
 intro a h1 h2
 by_cases e1 : a = j
 ·rw [e1,divS_jj]; exact Int.dvd_mul_of_dvd_left (h i oM oM)
 ·by_cases e2 : a = i
  ·rw [e2,divS_ii hij]; exact Int.dvd_coe_gcd (h i hik oM) (h j oM hjn)
  ·rw [divS_ne oM oM]; exact h a h1 h2
theorem divJ_all {n k i : Nat} {d : Int} (hik : k<=i) : ∀(m j : Nat) (F : Nat->Nat->Int),i < j->j + m<=n->(∀a,k<=a->a < n->d ∣ F a a)->∀a,k<=a->a < n->d ∣ divJ i m j F a a:=by
 intro m
 induction m with
 | zero=>intro j F _ _ h; exact h
 | succ m ih=>
  intro j F h1 h2 h
  unfold divJ
  refine ih (j + 1) _ oM oM ?_
  split
  ·exact h
  ·exact divS_all h1 hik oM h
theorem divJ_chain {n i : Nat} : ∀(m j : Nat) (F : Nat->Nat->Int),i < j->j + m<=n->(∀l,i < l->l < j->F i i ∣ F l l)->∀l,i < l->l < j + m->divJ i m j F i i ∣ divJ i m j F l l:=by
 intro m
 induction m with
 | zero=>intro j F _ _ h; exact h
 | succ m ih=>
  intro j F h1 h2 h l h3 h4
  unfold divJ
  refine ih (j + 1) _ oM oM ?_ l h3 oM
  intro l h3 h4
  split
  ·rename_i hd
   by_cases e : l = j
   ·rw [e]; exact hd
   ·exact h l h3 oM
  ·rw [divS_ii h1]
   by_cases e : l = j
   ·rw [e,divS_jj]; exact Int.dvd_mul_of_dvd_left (Int.gcd_dvd_left ..)
   ·rw [divS_ne oM oM]
    exact Int.dvd_trans (Int.gcd_dvd_left ..) (h l h3 oM)
theorem divJ_low {i : Nat} : ∀(m j : Nat) (F : Nat->Nat->Int),i < j->∀a b,a < i->divJ i m j F a b = F a b:=by
 intro m
 induction m with
 | zero=>intro j F _ a b _; rfl
 | succ m ih=>
  intro j F h1 a b h
  unfold divJ
  rw [ih (j + 1) _ oM a b h]
  split
  ·rfl
  ·exact divS_ne oM oM
theorem divI_low : ∀(m i : Nat) (F : Nat->Nat->Int),∀a b,a < i->divI m i F a b = F a b:=by
 intro m
 induction m with
 | zero=>intro i F a b _; rfl
 | succ m ih=>
  intro i F a b h
  unfold divI
  rw [ih (i + 1) _ a b oM,divJ_low m (i + 1) F oM a b h]
theorem divI_all {n k : Nat} {d : Int} : ∀(m i : Nat) (F : Nat->Nat->Int),i + m = n->k<=i->(∀a,k<=a->a < n->d ∣ F a a)->∀a,k<=a->a < n->d ∣ divI m i F a a:=by
 intro m
 induction m with
 | zero=>intro i F _ _ h; exact h
 | succ m ih=>
  intro i F h1 h2 h
  unfold divI
  exact ih (i + 1) _ oM oM (divJ_all h2 m (i + 1) F oM oM h)
theorem divI_chain {n : Nat} : ∀(m i : Nat) (F : Nat->Nat->Int),i + m = n->Chn i n (divI m i F):=by
 intro m
 induction m with
 | zero=>intro i F h a b h1 h2 h3; omega
 | succ m ih=>
  intro i F h a b h1 h2 h3
  unfold divI
  by_cases e : a = i
  ·subst e
   rw [divI_low m (a + 1) _ a a oM]
   refine divI_all (n:=n) (k:=a + 1) m (a + 1) _ oM (Nat.le_refl _) (fun c h4 h5=>?_) b oM h3
   exact divJ_chain (n:=n) m (a + 1) F oM oM (fun l h6 h7=>by omega) c oM oM
  ·exact ih (i + 1) _ oM a b oM h2 h3
def RelS (R C r : Nat) (A F : Nat->Nat->Int) : Prop:=Dg R C r F/\∃u v w x,Rel R C A ⟨F,u,v,w,x⟩
theorem RelS.step {R C r i j : Nat} {A F : Nat->Nat->Int} (h : RelS R C r A F) (hij : i < j) (hj : j < min R C) (hn : ¬ F i i ∣ F j j) : RelS R C r A (divS F i j):=by
 obtain ⟨hd,u,v,w,x,hr⟩:=h
 obtain ⟨b1,b2,b3⟩:=hd.both hij hj hn
 obtain ⟨s,t,e⟩:=bezI (x:=F i i) (y:=F j j) oM oM
 have:=divW_rel hr hd.off hij hj (fun h=>by dsimp only at h; rw [Int.gcd_eq_zero_iff] at h; omega) e
 exact ⟨hd.step hij hj hn,_,_,_,_,this⟩
theorem RelS.divJ {R C r i : Nat} {A : Nat->Nat->Int} : ∀(m j : Nat) (F : Nat->Nat->Int),i < j->j + m<=min R C->RelS R C r A F->RelS R C r A (divJ i m j F):=by
 intro m
 induction m with
 | zero=>intro j F _ _ h; exact h
 | succ m ih=>
  intro j F h1 h2 h
  unfold Go.Proofs.YtnocgagoaldfnaaGreat.divJ
  refine ih (j + 1) _ oM oM ?_
  split
  ·exact h
  ·rename_i hn
   exact h.step h1 oM hn
theorem RelS.divI {R C r : Nat} {A : Nat->Nat->Int} : ∀(m i : Nat) (F : Nat->Nat->Int),i + m<=min R C->RelS R C r A F->RelS R C r A (divI m i F):=by
 intro m
 induction m with
 | zero=>intro i F _ h; exact h
 | succ m ih=>
  intro i F h1 h
  unfold Go.Proofs.YtnocgagoaldfnaaGreat.divI
  exact ih (i + 1) _ oM (RelS.divJ m (i + 1) F oM oM h)
end Go.Proofs.YtnocgagoaldfnaaGreat
