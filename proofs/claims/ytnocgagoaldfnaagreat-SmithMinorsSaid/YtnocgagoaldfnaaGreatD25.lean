/- Elementary operations on rows: products, inverses, growth; and that smith's echelon form ends. Plain Lean. smith's echelon form (the mirror) ends, within bounds, in a Hermite normal form. Plain Lean. -/
import Derived.Test.YtnocgagoaldfnaaGreatD01
import Derived.Test.YtnocgagoaldfnaaGreatD21
import Derived.Test.YtnocgagoaldfnaaGreatD24
set_option linter.unusedVariables false
set_option linter.unusedSimpArgs false
set_option linter.unusedSectionVars false
namespace Go.Proofs.YtnocgagoaldfnaaGreat
open Go.RowKit
inductive Op where
 | add (i j : Nat) (k : Int)
 | swap (i j : Nat)
 | neg (i : Nat)
def Op.f : Op->(Nat->Nat->Int)->(Nat->Nat->Int)
 | .add i j k,F=>addF F i j k
 | .swap i j,F=>swpF F i j
 | .neg i,F=>negF F i
def Op.d : Op->(Nat->Nat->Int)->(Nat->Nat->Int)
 | .add i j k,F=>addF F j i (-k)
 | .swap i j,F=>swpF F i j
 | .neg i,F=>negF F i
def Op.b (o : Op) (x : Bst) : Bst:=⟨o.f x.s,o.f x.t,o.d x.i⟩
def Op.g : Op->Nat
 | .add _ _ k=>1 + k.natAbs
 | _=>1
def Op.ok (n : Nat) : Op->Prop
 | .add i j _=>i < n/\j < n/\i ≠ j
 | .swap i j=>i < n/\j < n
 | .neg i=>i < n
def opsF : List Op->(Nat->Nat->Int)->(Nat->Nat->Int)
 | [],F=>F
 | o :: l,F=>opsF l (o.f F)
def opsD : List Op->(Nat->Nat->Int)->(Nat->Nat->Int)
 | [],F=>F
 | o :: l,F=>opsD l (o.d F)
def opsB : List Op->Bst->Bst
 | [],x=>x
 | o :: l,x=>opsB l (o.b x)
def gro : List Op->Nat
 | []=>1
 | o :: l=>o.g * gro l
def okOps (n : Nat) (l : List Op) : Prop:=∀o ∈ l,o.ok n
theorem opsB_eq (l : List Op) : ∀x : Bst,opsB l x = ⟨opsF l x.s,opsF l x.t,opsD l x.i⟩:=by
 induction l with
 | nil=>intro x; rfl
 | cons o l ih=>intro x; exact ih _
theorem opsB_s (l : List Op) (x : Bst) : (opsB l x).s = opsF l x.s:=by rw [opsB_eq]
theorem opsF_app (l m : List Op) : ∀F,opsF (l ++ m) F = opsF m (opsF l F):=by
 induction l with
 | nil=>intro F; rfl
 | cons o l ih=>intro F; exact ih _
theorem opsB_app (l m : List Op) : ∀x,opsB (l ++ m) x = opsB m (opsB l x):=by
 induction l with
 | nil=>intro F; rfl
 | cons o l ih=>intro F; exact ih _
theorem gro_app (l m : List Op) : gro (l ++ m) = gro l * gro m:=by
 induction l with
 | nil=>simp [gro]
 | cons o l ih=>simp [gro,ih,Nat.mul_assoc]
theorem okOps.app {n : Nat} {l m : List Op} (h : okOps n l) (k : okOps n m) : okOps n (l ++ m):=fun o ho=>(List.mem_append.1 ho).elim (h o) (k o)
theorem okOps.cons {n : Nat} {o : Op} {m : List Op} (h : o.ok n) (k : okOps n m) : okOps n (o :: m):=fun p hp=>by
 rcases List.mem_cons.1 hp with rfl | hp
 ·exact h
 ·exact k p hp
theorem okOps.nil {n : Nat} : okOps n []:=fun o ho=>by cases ho
theorem Op.g_pos (o : Op) : 1<=o.g:=by cases o <;> simp [Op.g]
theorem gro_pos (l : List Op) : 1<=gro l:=by
 induction l with
 | nil=>exact Nat.le_refl _
 | cons o l ih=>exact Nat.mul_pos o.g_pos ih
def leM (M n C : Nat) (F : Nat->Nat->Int) : Prop:=∀a,a < n->∀b,b < C->(F a b).natAbs<=M
theorem leM.mono {M M' n C : Nat} {F : Nat->Nat->Int} (h : leM M n C F) (hM : M<=M') : leM M' n C F:=fun a ha b hb=>Nat.le_trans (h a ha b hb) hM
theorem leM.ok {M B n C : Nat} {F : Nat->Nat->Int} (h : leM M n C F) (hM : M < B) : okF B n C F:=fun a ha b hb=>Nat.lt_of_le_of_lt (h a ha b hb) hM
theorem leM_add {M n C i j : Nat} {k : Int} {F : Nat->Nat->Int} (h : leM M n C F) (hi : i < n) (hj : j < n) : leM (M * (1 + k.natAbs)) n C (addF F i j k):=by
 intro a ha b hb
 unfold addF
 split
 ·have h1:=h i hi b hb
  have h2:=h j hj b hb
  have h3 : (k * F j b).natAbs<=k.natAbs * M:=by rw [Int.natAbs_mul]; exact Nat.mul_le_mul_left _ h2
  have h4 : (F i b + k * F j b).natAbs<=(F i b).natAbs + (k * F j b).natAbs:=by omega
  rw [Nat.mul_add,Nat.mul_one,Nat.mul_comm M]
  omega
 ·exact Nat.le_trans (h a ha b hb) (Nat.le_mul_of_pos_right _ oM)
theorem swp_lt {i j a n : Nat} (hi : i < n) (hj : j < n) (ha : a < n) : swp i j a < n:=by unfold swp; split; exact hj; split; exact hi; exact ha
theorem leM_f {M n C : Nat} {o : Op} {F : Nat->Nat->Int} (h : leM M n C F) (ho : o.ok n) : leM (M * o.g) n C (o.f F):=by
 cases o with
 | add i j k=>exact leM_add h ho.1 ho.2.1
 | swap i j=>
  intro a ha b hb
  simp only [Op.g,Nat.mul_one]
  exact h _ (swp_lt ho.1 ho.2 ha) b hb
 | neg i=>
  intro a ha b hb
  simp only [Op.g,Nat.mul_one,Op.f,negF]
  split
  ·rw [Int.natAbs_neg]; exact h a ha b hb
  ·exact h a ha b hb
theorem leM_d {M n C : Nat} {o : Op} {F : Nat->Nat->Int} (h : leM M n C F) (ho : o.ok n) : leM (M * o.g) n C (o.d F):=by
 cases o with
 | add i j k=>
  have:=leM_add (k:=-k) h ho.2.1 ho.1
  rwa [Int.natAbs_neg] at this
 | swap i j=>exact leM_f (o:=.swap i j) h ho
 | neg i=>exact leM_f (o:=.neg i) h ho
theorem leM_opsF {n C : Nat} {l : List Op} (hl : okOps n l) : ∀{M : Nat} {F : Nat->Nat->Int},leM M n C F->leM (M * gro l) n C (opsF l F):=by
 induction l with
 | nil=>intro M F h; simpa [gro,opsF] using h
 | cons o l ih=>
  intro M F h
  have:=ih (fun p hp=>hl p (List.mem_cons_of_mem _ hp)) (leM_f h (hl o (List.mem_cons_self ..)))
  rwa [Nat.mul_assoc] at this
theorem leM_opsD {n C : Nat} {l : List Op} (hl : okOps n l) : ∀{M : Nat} {F : Nat->Nat->Int},leM M n C F->leM (M * gro l) n C (opsD l F):=by
 induction l with
 | nil=>intro M F h; simpa [gro,opsD] using h
 | cons o l ih=>
  intro M F h
  have:=ih (fun p hp=>hl p (List.mem_cons_of_mem _ hp)) (leM_d h (hl o (List.mem_cons_self ..)))
  rwa [Nat.mul_assoc] at this
def leB (M n Cs Ct : Nat) (x : Bst) : Prop:=leM M n Cs x.s/\leM M n Ct x.t/\leM M n Ct x.i
theorem leB_b {M n Cs Ct : Nat} {o : Op} {x : Bst} (h : leB M n Cs Ct x) (ho : o.ok n) : leB (M * o.g) n Cs Ct (o.b x):=⟨leM_f h.1 ho,leM_f h.2.1 ho,leM_d h.2.2 ho⟩
theorem leB_ops {n Cs Ct : Nat} {l : List Op} (hl : okOps n l) {M : Nat} {x : Bst} (h : leB M n Cs Ct x) : leB (M * gro l) n Cs Ct (opsB l x):=by
 rw [opsB_eq]
 exact ⟨leM_opsF hl h.1,leM_opsF hl h.2.1,leM_opsD hl h.2.2⟩
theorem okAdd_of {B M n Cs Ct i j : Nat} {k : Int} {x : Bst} (h : leB M n Cs Ct x) (hi : i < n) (hj : j < n) (hij : i ≠ j) (hM : 1<=M) (hB : M * (1 + k.natAbs) < B) : okAdd B n Cs Ct x i j k:=by
 have e : M * (1 + k.natAbs) = M + M * k.natAbs:=by rw [Nat.mul_add,Nat.mul_one]
 have hk : k.natAbs<=M * k.natAbs:=Nat.le_mul_of_pos_left _ hM
 have hp : ∀z : Int,z.natAbs<=M->(k * z).natAbs < B:=fun z hz=>by
  have : k.natAbs * z.natAbs<=k.natAbs * M:=Nat.mul_le_mul_left _ hz
  rw [Int.natAbs_mul]
  rw [Nat.mul_comm k.natAbs M] at this
  omega
 have h2:=leB_b (o:=.add i j k) h ⟨hi,hj,hij⟩
 exact ⟨by omega,fun t ht=>hp _ (h.1 j hj t ht),fun t ht=>⟨hp _ (h.2.1 j hj t ht),hp _ (h.2.2 i hi t ht)⟩,h2.1.ok hB,h2.2.1.ok hB,h2.2.2.ok hB⟩
theorem f_lin {n R b : Nat} {o : Op} {P F G : Nat->Nat->Int} (ho : o.ok n) (h : ∀a,a < n->F a b = sumN R fun t=>P a t * G t b) : ∀a,a < n->o.f F a b = sumN R fun t=>o.f P a t * G t b:=by
 intro a ha
 cases o with
 | add i j k=>
  show (if a = i then F i b + k * F j b else F a b) = sumN R fun t=>(if a = i then P i t + k * P j t else P a t) * G t b
  by_cases e : a = i
  ·rw [if_pos e,h i ho.1,h j ho.2.1,<-sumN_mul,<-sumN_add]
   refine sumN_congr fun t ht=>?_
   rw [if_pos e,Int.add_mul,Int.mul_assoc]
  ·rw [if_neg e,h a ha]
   refine sumN_congr fun t ht=>?_
   rw [if_neg e]
 | swap i j=>exact h _ (swp_lt ho.1 ho.2 ha)
 | neg i=>
  show (if a = i then -(F a b) else F a b) = sumN R fun t=>(if a = i then -(P a t) else P a t) * G t b
  by_cases e : a = i
  ·rw [if_pos e,h a ha,<-Int.neg_one_mul,<-sumN_mul]
   refine sumN_congr fun t ht=>?_
   rw [if_pos e,Int.neg_mul,Int.neg_mul,Int.one_mul]
  ·rw [if_neg e,h a ha]
   refine sumN_congr fun t ht=>?_
   rw [if_neg e]
theorem ops_lin {n R b : Nat} {l : List Op} (hl : okOps n l) : ∀{P F G : Nat->Nat->Int},(∀a,a < n->F a b = sumN R fun t=>P a t * G t b)->∀a,a < n->opsF l F a b = sumN R fun t=>opsF l P a t * G t b:=by
 induction l with
 | nil=>intro P F G h; exact h
 | cons o l ih=>
  intro P F G h
  exact ih (fun p hp=>hl p (List.mem_cons_of_mem _ hp)) (f_lin (hl o (List.mem_cons_self ..)) h)
theorem idf_sum {n a : Nat} (ha : a < n) (G : Nat->Int) : G a = sumN n fun t=>idf a t * G t:=by
 rw [sumN_one (c:=a) ha]
 ·unfold idf; rw [if_pos rfl,Int.one_mul]
 ·intro i hi hne
  unfold idf; rw [if_neg (fun e=>hne e.symm),Int.zero_mul]
theorem ops_mat {n : Nat} {l : List Op} (hl : okOps n l) (F : Nat->Nat->Int) : ∀a,a < n->∀b,opsF l F a b = sumN n fun t=>opsF l idf a t * F t b:=
 fun a ha b=>ops_lin hl (fun a ha=>idf_sum ha fun t=>F t b) a ha
def dot (C : Nat) (P Q : Nat->Nat->Int) (a b : Nat) : Int:=sumN C fun t=>P a t * Q b t
theorem op_dot {n C : Nat} {o : Op} {P Q : Nat->Nat->Int} (ho : o.ok n) (h : ∀a,a < n->∀b,b < n->dot C P Q a b = idf a b) : ∀a,a < n->∀b,b < n->dot C (o.f P) (o.d Q) a b = idf a b:=by
 intro a ha b hb
 cases o with
 | add i j k=>
  obtain ⟨hi,hj,hij⟩:=ho
  have e : dot C (addF P i j k) (addF Q j i (-k)) a b = dot C P Q a b + (if a = i then k * dot C P Q j b else 0) + (if b = j then (-k) * dot C P Q a i + (if a = i then (-k) * (k * dot C P Q j i) else 0) else 0):=by
   unfold dot addF
   by_cases e1 : a = i
   ·subst e1
    by_cases e2 : b = j
    ·subst e2
     simp only [if_true]
     rw [<-sumN_mul,<-sumN_mul,<-sumN_mul,<-sumN_mul,<-sumN_add,<-sumN_add,<-sumN_add]
     refine sumN_congr fun t ht=>?_
     generalize P a t = p
     generalize P b t = q
     generalize Q a t = r
     generalize Q b t = s
     grind
    ·simp only [if_true,if_neg e2]
     rw [<-sumN_mul,<-sumN_add,Int.add_zero]
     refine sumN_congr fun t ht=>?_
     rw [Int.add_mul,Int.mul_assoc]
   ·by_cases e2 : b = j
    ·subst e2
     simp only [if_true,if_neg e1]
     rw [<-sumN_mul,Int.add_zero,Int.add_zero,<-sumN_add]
     refine sumN_congr fun t ht=>?_
     rw [Int.mul_add,Int.mul_left_comm]
    ·simp only [if_neg e1,if_neg e2]
     rw [Int.add_zero,Int.add_zero]
  show dot C (addF P i j k) (addF Q j i (-k)) a b = _
  rw [e,h a ha b hb,h j hj b hb,h a ha i hi,h j hj i hi]
  unfold idf
  have hji : ¬ j = i:=fun h=>hij h.symm
  by_cases e1 : a = i
  ·by_cases e2 : b = j
   ·subst e1
    subst e2
    simp [hij,hji]
    omega
   ·have e3 : ¬ j = b:=fun h=>e2 h.symm
    subst e1
    simp [e2,e3]
  ·by_cases e2 : b = j
   ·subst e2
    simp [e1]
   ·simp [e1,e2]
 | swap i j=>
  show dot C P Q (swp i j a) (swp i j b) = _
  rw [h _ (swp_lt ho.1 ho.2 ha) _ (swp_lt ho.1 ho.2 hb)]
  unfold idf swp
  split <;> split <;> (try split) <;> (try split) <;> (try split) <;> (try split) <;> first | rfl | omega
 | neg i=>
  have e : dot C (negF P i) (negF Q i) a b = (if a = i then -1 else 1) * ((if b = i then -1 else 1) * dot C P Q a b):=by
   unfold dot negF
   rw [<-sumN_mul,<-sumN_mul]
   refine sumN_congr fun t ht=>?_
   generalize P a t = p
   generalize Q b t = q
   split <;> split <;> grind
  show dot C (negF P i) (negF Q i) a b = _
  rw [e,h a ha b hb]
  unfold idf
  split <;> split <;> split <;> omega
theorem ops_dot {n C : Nat} {l : List Op} (hl : okOps n l) : ∀{P Q : Nat->Nat->Int},(∀a,a < n->∀b,b < n->dot C P Q a b = idf a b)->∀a,a < n->∀b,b < n->dot C (opsF l P) (opsD l Q) a b = idf a b:=by
 induction l with
 | nil=>intro P Q h; exact h
 | cons o l ih=>
  intro P Q h
  exact ih (fun p hp=>hl p (List.mem_cons_of_mem _ hp)) (op_dot (hl o (List.mem_cons_self ..)) h)
def cod (n : Nat) (Q P : Nat->Nat->Int) (a b : Nat) : Int:=sumN n fun t=>Q t a * P t b
theorem sum_shift {n i j : Nat} {f g : Nat->Int} {d : Int} (hi : i < n) (hj : j < n) (hij : i ≠ j) (h : ∀t,t < n->t ≠ i->t ≠ j->f t = g t) (h1 : f i = g i + d) (h2 : f j = g j - d) : sumN n f = sumN n g:=by
 have e : sumN n (fun t=>f t - g t) = 0:=by
  have : ∀m,m<=n->sumN m (fun t=>f t - g t) = (if i < m then d else 0) - (if j < m then d else 0):=by
   intro m
   induction m with
   | zero=>intro _; rfl
   | succ m ih=>
    intro hm
    show sumN m _ + (f m - g m) = _
    rw [ih oM]
    by_cases e1 : m = i
    ·subst e1
     rw [h1]
     split <;> split <;> split <;> (try split) <;> omega
    ·by_cases e2 : m = j
     ·subst e2
      rw [h2]
      split <;> split <;> split <;> (try split) <;> omega
     ·rw [h m oM e1 e2]
      split <;> split <;> split <;> (try split) <;> omega
  rw [this n (Nat.le_refl _),if_pos hi,if_pos hj]
  omega
 have e2 : sumN n f = sumN n g + sumN n (fun t=>f t - g t):=by
  rw [<-sumN_add]
  exact sumN_congr fun t ht=>by omega
 omega
theorem sum_swp {n i j : Nat} (hi : i < n) (hj : j < n) (f : Nat->Int) : sumN n (fun t=>f (swp i j t)) = sumN n f:=by
 by_cases hij : i = j
 ·subst hij
  refine sumN_congr fun t ht=>?_
  unfold swp; split <;> (try split) <;> simp_all
 ·refine sum_shift (d:=f j - f i) hi hj hij (fun t ht h1 h2=>?_) ?_ ?_
  ·unfold swp; rw [if_neg h1,if_neg h2]
  ·unfold swp; rw [if_pos rfl]; omega
  ·unfold swp; rw [if_neg oM,if_pos rfl]; omega
theorem op_cod {n : Nat} {o : Op} {P Q : Nat->Nat->Int} (ho : o.ok n) (a b : Nat) : cod n (o.d Q) (o.f P) a b = cod n Q P a b:=by
 cases o with
 | add i j k=>
  obtain ⟨hi,hj,hij⟩:=ho
  refine sum_shift (i:=i) (j:=j) (d:=k * (Q i a * P j b)) hi hj hij (fun t ht h1 h2=>?_) ?_ ?_
  ·simp only [Op.d,Op.f,addF,if_neg h1,if_neg h2]
  ·simp only [Op.d,Op.f,addF,if_true,if_neg hij]
   rw [Int.mul_add,Int.mul_left_comm]
  ·simp only [Op.d,Op.f,addF,if_true,if_neg (fun h=>hij (Eq.symm h))]
   rw [Int.add_mul,Int.mul_assoc,Int.neg_mul]
   rfl
 | swap i j=>exact sum_swp ho.1 ho.2 fun t=>Q t a * P t b
 | neg i=>
  refine sumN_congr fun t ht=>?_
  simp only [Op.d,Op.f,negF]
  split
  ·rw [Int.neg_mul_neg]
  ·rfl
theorem ops_cod {n : Nat} {l : List Op} (hl : okOps n l) : ∀{P Q : Nat->Nat->Int} (a b : Nat),cod n (opsD l Q) (opsF l P) a b = cod n Q P a b:=by
 induction l with
 | nil=>intro P Q a b; rfl
 | cons o l ih=>
  intro P Q a b
  show cod n (opsD l (o.d Q)) (opsF l (o.f P)) a b = _
  rw [ih (fun p hp=>hl p (List.mem_cons_of_mem _ hp)),op_cod (hl o (List.mem_cons_self ..))]
theorem ops_back {n : Nat} {l : List Op} (hl : okOps n l) (F : Nat->Nat->Int) : ∀a,a < n->∀b,F a b = sumN n fun t=>opsD l idf t a * opsF l F t b:=by
 intro a ha b
 have h1:=ops_cod (P:=F) (Q:=idf) hl a b
 unfold cod at h1
 rw [h1,sumN_one (c:=a) ha]
 ·unfold idf; rw [if_pos rfl,Int.one_mul]
 ·intro t ht hne
  unfold idf; rw [if_neg hne,Int.zero_mul]
theorem lead_eq {C : Nat} {F : Nat->Nat->Int} {i c : Nat} (hc : c < C) (h : F i c ≠ 0) (hz : ∀t,t < c->F i t = 0) : lead C F i = (c : Int):=by
 rcases lead_spec C F i with ⟨-,h2⟩ | ⟨j,h1,h2,h3,h4⟩
 ·exact absurd (h2 c hc) h
 ·rcases Nat.lt_trichotomy j c with h5 | h5 | h5
  ·exact absurd (hz j h5) h3
  ·rw [h1,h5]
  ·exact absurd (h4 c h5) h
theorem lead_lt0 {C : Nat} {F : Nat->Nat->Int} {i : Nat} (h : lead C F i < 0) : ∀t,t < C->F i t = 0:=by
 rcases lead_spec C F i with ⟨-,h1⟩ | ⟨j,h1,-⟩
 ·exact h1
 ·omega
theorem adv_spec (L : Nat->Int) (c : Int) : ∀m k,k<=adv L c m k/\adv L c m k<=k + m/\(∀i,k<=i->i < adv L c m k->L i < c)/\(adv L c m k < k + m->¬ L (adv L c m k) < c):=by
 intro m
 induction m with
 | zero=>intro k; exact ⟨Nat.le_refl _,Nat.le_refl _,fun i h1 h2=>by unfold adv at h2; omega,fun h=>by unfold adv at h; omega⟩
 | succ m ih=>
  intro k
  unfold adv
  by_cases h : L k < c
  ·rw [if_pos h]
   obtain ⟨h1,h2,h3,h4⟩:=ih (k + 1)
   refine ⟨by omega,by omega,fun i a b=>?_,fun hh=>h4 oM⟩
   by_cases e : i = k
   ·rw [e]; exact h
   ·exact h3 i oM b
  ·rw [if_neg h]
   exact ⟨Nat.le_refl _,by omega,fun i a b=>by omega,fun _=>h⟩
theorem adv_stay {L : Nat->Int} {c : Int} {m k : Nat} (h : 0 < m->¬ L k < c) : adv L c m k = k:=by
 cases m with
 | zero=>rfl
 | succ m=>unfold adv; rw [if_neg (h oM)]
theorem adv_step {L : Nat->Int} {c : Int} {r k : Nat} (hk : k < r) (h : L k < c) : adv L c (r - k) k = adv L c (r - (k + 1)) (k + 1):=by
 obtain ⟨m,hm⟩ : ∃m,r - k = m + 1:=⟨r - k - 1,by omega⟩
 rw [hm]
 have : r - (k + 1) = m:=by omega
 rw [this]
 show (if L k < c then adv L c m (k + 1) else k) = _
 rw [if_pos h]
theorem takeGo_coll {B n Cs Ct m rank f k c k' : Nat} {x : Bst} (h0 : lead Cs x.s m = (c : Int)) (h1 : adv (lead Cs x.s) (lead Cs x.s m) (rank - k) k = k') (h2 : k' < rank) (h3 : lead Cs x.s k' = (c : Int))
  (hok : okAdd B n Cs Ct x m k' (-(x.s m c / x.s k' c))) :
  takeGo B n Cs Ct m rank (f + 1) k x = takeGo B n Cs Ct m rank f k' (if x.s m c % x.s k' c = 0 then opsB [.add m k' (-(x.s m c / x.s k' c))] x else opsB [.add m k' (-(x.s m c / x.s k' c)),.swap m k'] x):=by
 have hc : (lead Cs x.s m).toNat = c:=by rw [h0]; rfl
 conv=>lhs; unfold takeGo
 rw [h1,hc,if_neg oM,if_pos ⟨h2,by rw [h3,h0]⟩,if_pos hok]
 rfl
theorem takeGo_mono {B n Cs Ct m rank : Nat} : ∀{f k : Nat} {x : Bst} {r : Bst × Bool},takeGo B n Cs Ct m rank f k x = some r->takeGo B n Cs Ct m rank (f + 1) k x = some r:=by
 intro f
 induction f with
 | zero=>intro k x r h; cases h
 | succ f ih=>
  intro k x r h
  unfold takeGo at h ⊢
  split
  ·rename_i h1
   rw [if_pos h1] at h
   exact h
  ·rename_i h1
   rw [if_neg h1] at h
   split
   ·rename_i h2
    rw [if_pos h2] at h
    split
    ·rename_i h3
     rw [if_pos h3] at h
     exact ih h
    ·rename_i h3
     rw [if_neg h3] at h
     exact h
   ·rename_i h2
    rw [if_neg h2] at h
    exact h
theorem takeGo_le {B n Cs Ct m rank : Nat} {f g k : Nat} {x : Bst} {r : Bst × Bool} (h : takeGo B n Cs Ct m rank f k x = some r) (hfg : f<=g) : takeGo B n Cs Ct m rank g k x = some r:=by
 obtain ⟨d,rfl⟩:=Nat.exists_eq_add_of_le hfg
 clear hfg
 induction d with
 | zero=>exact h
 | succ d ih=>exact takeGo_mono ih
theorem eu1 {q p : Nat} (hp : 0 < p) : 1 + q<=(1 + q) * (2 * p * p):=Nat.le_mul_of_pos_right _ (by
 have:=Nat.mul_pos hp hp
 rw [Nat.mul_assoc]; omega)
theorem eu2 {q p r a : Nat} (hp : 0 < p) (ha : p<=a) (h : a = p * q + r) : 1 + q<=2 * a * p:=by
 have h1 : q<=p * q:=Nat.le_mul_of_pos_left _ hp
 have h2 : 2 * a<=2 * a * p:=Nat.le_mul_of_pos_right _ hp
 omega
theorem eu3 {q p r : Nat} (hr : r<=p) : (1 + q) * (2 * p * r)<=(1 + q) * (2 * p * p):=Nat.mul_le_mul_left _ (Nat.mul_le_mul_left _ hr)
theorem eu4 {q p r a : Nat} (hr : r<=p) (h : a = p * q + r) : (1 + q) * (2 * p * r)<=2 * a * p:=by
 have h1 : q * r<=q * p:=Nat.mul_le_mul_left _ hr
 have h2 : (1 + q) * r<=a:=by
  rw [Nat.add_mul,Nat.one_mul,h,Nat.mul_comm p]; omega
 have h3 : (1 + q) * (2 * p * r) = 2 * p * ((1 + q) * r):=by rw [Nat.mul_left_comm]
 have h4 : 2 * a * p = 2 * p * a:=by rw [Nat.mul_assoc,Nat.mul_assoc,Nat.mul_comm a]
 rw [h3,h4]
 exact Nat.mul_le_mul_left _ h2
theorem euclid {B n Cs Ct m rank c k : Nat} (hk : k < rank) (hrm : rank<=m) (hmn : m < n) (hc : c < Cs) : ∀(p : Nat) (x : Bst) (M Gb : Nat),leB M n Cs Ct x->1<=M->0 < p->x.s k c = (p : Int)->x.s m c ≠ 0 ->
  (∀t,t < c->x.s k t = 0)->(∀t,t < c->x.s m t = 0)->((1 + (x.s m c / (p : Int)).natAbs) * (2 * p * p)<=Gb ∨ ((p : Int)<=x.s m c/\2 * (x.s m c).natAbs * p<=Gb))->M * Gb < B ->
  ∃f0 l,(∀f,takeGo B n Cs Ct m rank (f + f0) k x = takeGo B n Cs Ct m rank f k (opsB l x))/\okOps n l/\gro l<=Gb/\(∀a,a ≠ m->a ≠ k->∀b,opsF l x.s a b = x.s a b) ∧
   (∀t,t < c->opsF l x.s k t = 0)/\0 < opsF l x.s k c/\opsF l x.s k c<=(p : Int)/\(∀t,t<=c->opsF l x.s m t = 0):=by
 intro p
 induction p using Nat.strongRecOn with
 | ind p ih=>
 intro x M Gb hM hM1 hp hkc hmc hzk hzm hG hMB
 have hmk : m ≠ k:=by omega
 have hlm : lead Cs x.s m = (c : Int):=lead_eq hc hmc hzm
 have hlk : lead Cs x.s k = (c : Int):=lead_eq hc oM hzk
 have hadv : adv (lead Cs x.s) (lead Cs x.s m) (rank - k) k = k:=adv_stay fun _=>by rw [hlm,hlk]; omega
 have hdm:=Int.mul_ediv_add_emod (x.s m c) p
 have hr0:=Int.emod_nonneg (x.s m c) (b:=(p : Int)) oM
 have hrp:=Int.emod_lt_of_pos (x.s m c) (b:=(p : Int)) oM
 obtain ⟨q,hq⟩ : ∃q,x.s m c / (p : Int) = q:=⟨_,rfl⟩
 obtain ⟨r,hr⟩ : ∃r : Nat,x.s m c % (p : Int) = (r : Int):=⟨(x.s m c % (p : Int)).toNat,by omega⟩
 rw [hq,hr] at hdm
 rw [hr] at hrp
 rw [hq] at hG
 have hcase2 : (p : Int)<=x.s m c->(x.s m c).natAbs = p * q.natAbs + r/\p<=(x.s m c).natAbs:=fun hpa=>by
  have hq0 : 0<=q:=by rw [<-hq]; exact Int.ediv_nonneg oM oM
  have : ((q.natAbs : Nat) : Int) = q:=by omega
  refine ⟨?_,by omega⟩
  have h5 : ((p * q.natAbs + r : Nat) : Int) = x.s m c:=by rw [Int.natCast_add,Int.natCast_mul,this]; exact hdm
  omega
 have hGq : 1 + q.natAbs<=Gb:=by
  rcases hG with h | ⟨h1,h2⟩
  ·exact Nat.le_trans (eu1 hp) h
  ·obtain ⟨h3,h4⟩:=hcase2 h1
   exact Nat.le_trans (eu2 hp h4 h3) h2
 have hGr : (1 + q.natAbs) * (2 * p * r)<=Gb:=by
  rcases hG with h | ⟨h1,h2⟩
  ·exact Nat.le_trans (eu3 oM) h
  ·obtain ⟨h3,h4⟩:=hcase2 h1
   exact Nat.le_trans (eu4 oM h3) h2
 have hqq : x.s m c / x.s k c = q:=by rw [hkc,hq]
 have hrr : x.s m c % x.s k c = (r : Int):=by rw [hkc,hr]
 have hok : okAdd B n Cs Ct x m k (-(x.s m c / x.s k c)):=by
  rw [hqq]
  refine okAdd_of hM hmn oM hmk hM1 ?_
  rw [Int.natAbs_neg]
  exact Nat.lt_of_le_of_lt (Nat.mul_le_mul_left _ hGq) hMB
 have hoa : (Op.add m k (-q)).ok n:=⟨hmn,by omega,hmk⟩
 have hga : (Op.add m k (-q)).g = 1 + q.natAbs:=by simp [Op.g]
 have hmr : ∀t,(addF x.s m k (-q)) m t = x.s m t + -q * x.s k t:=fun t=>by unfold addF; rw [if_pos rfl]
 have hmc' : x.s m c + -q * x.s k c = (r : Int):=by
  rw [hkc,Int.neg_mul,Int.mul_comm q]; omega
 by_cases hr2 : r = 0
 ·refine ⟨1,[.add m k (-q)],fun f=>?_,okOps.cons hoa okOps.nil,?_,?_,?_,?_,?_,?_⟩
  ·rw [takeGo_coll hlm hadv hk hlk hok,hqq,hrr,if_pos oM]
  ·show _ * 1<=_
   rw [Nat.mul_one,hga]; exact hGq
  ·intro a h1 h2 b
   show addF x.s m k (-q) a b = _
   unfold addF; rw [if_neg h1]
  ·intro t ht
   show addF x.s m k (-q) k t = _
   unfold addF; rw [if_neg (fun h=>hmk h.symm)]; exact hzk t ht
  ·show 0 < addF x.s m k (-q) k c
   unfold addF; rw [if_neg (fun h=>hmk h.symm),hkc]; omega
  ·show addF x.s m k (-q) k c<=_
   unfold addF; rw [if_neg (fun h=>hmk h.symm),hkc]; omega
  ·intro t ht
   show addF x.s m k (-q) m t = _
   rw [hmr]
   rcases Nat.lt_or_ge t c with h | h
   ·rw [hzk t h,hzm t h]; omega
   ·obtain rfl : t = c:=by omega
    rw [hmc',hr2]; rfl
 ·have hos : (Op.swap m k).ok n:=⟨hmn,by omega⟩
  have hy : leB (M * (1 + q.natAbs)) n Cs Ct (opsB [.add m k (-q),.swap m k] x):=by
   have:=leB_ops (okOps.cons hoa (okOps.cons hos okOps.nil)) hM
   rwa [show gro [Op.add m k (-q),Op.swap m k] = 1 + q.natAbs by simp [gro,Op.g]] at this
  have hk2 : ∀t,(opsB [.add m k (-q),.swap m k] x).s k t = x.s m t + -q * x.s k t:=fun t=>by
   show addF x.s m k (-q) (swp m k k) t = _
   rw [show swp m k k = m by unfold swp; rw [if_neg oM,if_pos rfl],hmr]
  have hm2 : ∀t,(opsB [.add m k (-q),.swap m k] x).s m t = x.s k t:=fun t=>by
   show addF x.s m k (-q) (swp m k m) t = _
   rw [show swp m k m = k by unfold swp; rw [if_pos rfl]]
   unfold addF; rw [if_neg oM]
  have ho2 : ∀a,a ≠ m->a ≠ k->∀b,(opsB [.add m k (-q),.swap m k] x).s a b = x.s a b:=fun a h1 h2 b=>by
   show addF x.s m k (-q) (swp m k a) b = _
   rw [show swp m k a = a by unfold swp; rw [if_neg h1,if_neg h2]]
   unfold addF; rw [if_neg h1]
  obtain ⟨f0,l,e1,e2,e3,e4,e5,e6,e7,e8⟩:=ih r oM (opsB [.add m k (-q),.swap m k] x) (M * (1 + q.natAbs)) (2 * p * r) hy (Nat.mul_pos hM1 oM) oM (by rw [hk2,hmc']) (by rw [hm2,hkc]; omega)
   (fun t ht=>by rw [hk2,hzk t ht,hzm t ht]; omega) (fun t ht=>by rw [hm2,hzk t ht]) (.inr ⟨by rw [hm2,hkc]; omega,by rw [hm2,hkc]; exact Nat.le_refl _⟩) (by rw [Nat.mul_assoc]; exact Nat.lt_of_le_of_lt (Nat.mul_le_mul_left _ hGr) hMB)
  have es : (opsB [.add m k (-q),.swap m k] x).s = opsF [.add m k (-q),.swap m k] x.s:=opsB_s _ _
  have ef : opsF l (opsB [.add m k (-q),.swap m k] x).s = opsF ([.add m k (-q),.swap m k] ++ l) x.s:=by rw [opsF_app,es]
  rw [ef] at e4 e5 e6 e7 e8
  refine ⟨f0 + 1,[.add m k (-q),.swap m k] ++ l,fun f=>?_,(okOps.cons hoa (okOps.cons hos okOps.nil)).app e2,?_,fun a h1 h2 b=>?_,e5,e6,by omega,e8⟩
  ·have:=takeGo_coll (f:=f + f0) hlm hadv hk hlk hok
   rw [hqq,hrr,if_neg oM] at this
   rw [<-Nat.add_assoc,this,e1,opsB_app]
  ·rw [gro_app]
   refine Nat.le_trans (Nat.mul_le_mul_left _ e3) ?_
   rw [show gro [Op.add m k (-q),Op.swap m k] = 1 + q.natAbs by simp [gro,Op.g]]
   exact hGr
  ·rw [e4 a h1 h2 b,ho2 a h1 h2 b]
structure Ech (C r : Nat) (c : Nat->Nat) (F : Nat->Nat->Int) : Prop where
 lt : ∀k,k < r->c k < C
 pos : ∀k,k < r->0 < F k (c k)
 zero : ∀k,k < r->∀t,t < c k->F k t = 0
 inc : ∀k l,k < l->l < r->c k < c l
theorem Ech.lead {C r : Nat} {c : Nat->Nat} {F : Nat->Nat->Int} (h : Ech C r c F) {k : Nat} (hk : k < r) : lead C F k = (c k : Int):=lead_eq (h.lt k hk) (by have:=h.pos k hk; omega) (h.zero k hk)
def rotOps (k : Nat) : Nat->List Op
 | 0=>[]
 | m + 1=>.swap (k + m + 1) (k + m) :: rotOps k m
def rotI (k m a : Nat) : Nat:=if a = k then k + m else if k < a/\a<=k + m then a - 1 else a
theorem rotB_ops (k m : Nat) : ∀x,rotB k m x = opsB (rotOps k m) x:=by
 induction m with
 | zero=>intro x; rfl
 | succ m ih=>intro x; exact ih _
theorem rotOps_f (k m : Nat) : ∀(F : Nat->Nat->Int) (a b : Nat),opsF (rotOps k m) F a b = F (rotI k m a) b:=by
 induction m with
 | zero=>
  intro F a b
  show F a b = _
  congr 1
  unfold rotI; split <;> (try split) <;> omega
 | succ m ih=>
  intro F a b
  show opsF (rotOps k m) (swpF F (k + m + 1) (k + m)) a b = _
  rw [ih]
  show F (swp (k + m + 1) (k + m) (rotI k m a)) b = _
  congr 1
  unfold rotI swp
  split <;> split <;> (try split) <;> (try split) <;> (try split) <;> (try split) <;> omega
theorem rotOps_ok {n k m : Nat} (h : k + m < n) : okOps n (rotOps k m):=by
 induction m with
 | zero=>exact okOps.nil
 | succ m ih=>exact okOps.cons ⟨by omega,by omega⟩ (ih oM)
theorem rotOps_gro (k m : Nat) : gro (rotOps k m) = 1:=by
 induction m with
 | zero=>rfl
 | succ m ih=>simp [rotOps,gro,Op.g,ih]
theorem takeGo_skip {B n Cs Ct m rank f k : Nat} {x : Bst} (hk : k < rank) (h : lead Cs x.s m < 0 ∨ lead Cs x.s k < lead Cs x.s m) : takeGo B n Cs Ct m rank f k x = takeGo B n Cs Ct m rank f (k + 1) x:=by
 cases f with
 | zero=>rfl
 | succ f=>
  unfold takeGo
  rcases h with h | h
  ·rw [if_pos h,if_pos h]
  ·rw [adv_step hk h]
theorem le_pow2 {Z a b : Nat} (hZ : 1<=Z) (h : a<=b) : Z ^ a<=Z ^ b:=Nat.pow_le_pow_right hZ h
theorem four_bound {T : Nat} (hT : 1<=T) : 2 * T * ((1 + T) * (2 * T * T))<=(2 * T) ^ 4:=by
 have h1 : (1 + T) * (2 * T * T)<=(2 * T) * (2 * T * T):=Nat.mul_le_mul_right _ oM
 have h2 : (2 * T) * ((2 * T) * (2 * T * T))<=(2 * T) * ((2 * T) * (2 * T * (2 * T))):=Nat.mul_le_mul_left _ (Nat.mul_le_mul_left _ (Nat.mul_le_mul_left _ oM))
 have h3 : (2 * T) ^ 4 = (2 * T) * ((2 * T) * (2 * T * (2 * T))):=by
  simp [Nat.pow_succ,Nat.mul_assoc]
 rw [h3]
 exact Nat.le_trans (Nat.mul_le_mul_left _ h1) h2
end Go.Proofs.YtnocgagoaldfnaaGreat
