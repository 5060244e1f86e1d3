/- torsionref12.Form: what its operations keep, and how the numbers grow. Plain Lean. torsionref12: the work of a run, as a value. -/
import Derived.Test.YtgnmdddaiefooaaGreatD22
import Derived.Test.YtgnmdddaiefooaaGreatD34
import Derived.Test.YtgnmdddaiefooaaGreatD35
import Derived.Test.YtgnmdddaiefooaaGreatD38
set_option linter.unusedVariables false
set_option linter.unusedSimpArgs false
set_option linter.unusedSectionVars false
set_option maxHeartbeats 16000000
set_option maxRecDepth 100000
namespace Go.Proofs.YtgnmdddaiefooaaGreat
open Go.RowKit
def gx (E M : Nat) : Nat:=(2 * M) ^ E / 2
theorem gx_two {E M : Nat} (hE : 1<=E) : 2 * gx E M = (2 * M) ^ E:=by
 obtain ⟨e,rfl⟩ : ∃e,E = e + 1:=⟨E - 1,by omega⟩;have h : (2 * M) ^ (e + 1) = 2 * (M * (2 * M) ^ e):=by rw [Nat.pow_succ,Nat.mul_comm ((2 * M) ^ e),Nat.mul_assoc]
 unfold gx;rw [h,Nat.mul_div_cancel_left _ oM]
theorem gx_one (M : Nat) : gx 1 M = M:=by
 have:=gx_two (E:=1) (M:=M) oM;rw [Nat.pow_one] at this;omega
theorem gx_mono {a b M : Nat} (hM : 1<=M) (h : a<=b) : gx a M<=gx b M:=Nat.div_le_div_right (Nat.pow_le_pow_right oM h)
theorem gx_ge {E M : Nat} (hM : 1<=M) (hE : 1<=E) : M<=gx E M:=by have:=gx_mono hM hE; rwa [gx_one] at this
theorem gx_gx {a b M : Nat} (ha : 1<=a) : gx b (gx a M) = gx (a * b) M:=by
 have h:=gx_two (M:=M) ha;unfold gx at h ⊢
 rw [h,<-Nat.pow_mul]
theorem gx_sq (M : Nat) : gx 2 M = 2 * M * M:=by
 have h:=gx_two (E:=2) (M:=M) oM;rw [Nat.pow_two,Nat.mul_assoc 2 M (2 * M),Nat.mul_left_comm M 2 M,<-Nat.mul_assoc 2 M M] at h;omega
theorem gx_five (m : Nat) : gx 5 m = 16 * (m * m * m * m * m):=by
 have h:=gx_two (E:=5) (M:=m) oM;rw [Nat.mul_pow] at h;simp only [Nat.pow_succ,Nat.pow_zero,Nat.one_mul] at h;omega
theorem gx_gk (k M : Nat) : gx (2 ^ k) M = gk k M:=by
 have h1:=gx_two (E:=2 ^ k) (M:=M) (Nat.pow_pos oM);have h2:=gk_pow k M;omega
theorem div_abs (a b : Int) : (a / b).natAbs<=a.natAbs:=Int.natAbs_ediv_le_natAbs a b
structure KCore (n C : Nat) (x0 : Bst) (c r : Nat) (κ : Nat->Nat) (x : Bst) : Prop where
 ops : ∃l,okOps n l/\x = opsB l x0
 rn : r<=n
 ech : Ech C r κ x.s
 lt : ∀k,k < r->κ k < c
 red : RedOn (fun _ _=>True) r κ x.s
 zero : ∀a,r<=a->a < n->∀t,t < c->t < C->x.s a t = 0
section
variable {n C Ct M0 B : Nat} {x0 x : Bst} {c r : Nat} {κ : Nat->Nat}
theorem KCore.op (h : KCore n C x0 c r κ x) {o : Op} (ho : o.ok n) (hl : ∀a,a < r->∀t,(∀b,r<=b->b < n->x.s b t = 0) ∨ True->(o.b x).s a t = x.s a t) (hz : ∀t,(∀b,r<=b->b < n->x.s b t = 0)->∀a,r<=a->a < n->(o.b x).s a t = 0) : KCore n C x0 c r κ (o.b x):=by
 obtain ⟨l,l1,l2⟩:=h.ops;refine ⟨opsB_ex l1 l2 (okOps.cons ho okOps.nil) rfl,h.rn,⟨h.ech.lt,fun k hk=>?_,fun k hk t ht=>?_,h.ech.inc⟩,h.lt,fun i j h1 h2 h3=>?_,fun a h1 h2 t h3 h4=>?_⟩
 ·rw [hl k hk _ (.inr trivial)]; exact h.ech.pos k hk
 ·rw [hl k hk _ (.inr trivial)]; exact h.ech.zero k hk t ht
 ·rw [hl i oM _ (.inr trivial),hl j h2 _ (.inr trivial)]; exact h.red i j h1 h2 h3
 ·exact hz t (fun b g1 g2=>h.zero b g1 g2 t h3 h4) a h1 h2
theorem KCore.add (h : KCore n C x0 c r κ x) {i j : Nat} (k : Int) (hi : i < n) (hj : j < n) (hij : i ≠ j) (hri : r<=i) (hrj : r<=j) : KCore n C x0 c r κ (x.add i j k):=by
 refine h.op (o:=.add i j k) ⟨hi,hj,hij⟩ (fun a ha t _=>?_) (fun t ht a h1 h2=>?_)
 ·show addF x.s i j k a t = _
  unfold addF; rw [if_neg oM]
 ·show addF x.s i j k a t = _
  unfold addF; split
  ·rw [ht i hri hi,ht j hrj hj]; omega
  ·exact ht a h1 h2
theorem KCore.swap (h : KCore n C x0 c r κ x) {i j : Nat} (hi : i < n) (hj : j < n) (hri : r<=i) (hrj : r<=j) : KCore n C x0 c r κ (x.swap i j):=by
 refine h.op (o:=.swap i j) ⟨hi,hj⟩ (fun a ha t _=>?_) (fun t ht a h1 h2=>?_)
 ·show x.s (swp i j a) t = _
  rw [show swp i j a = a by unfold swp; rw [if_neg oM,if_neg oM]]
 ·show x.s (swp i j a) t = _
  refine ht _ ?_ (swp_lt hi hj h2);unfold swp; split <;> (try split) <;> omega
theorem KCore.neg (h : KCore n C x0 c r κ x) {i : Nat} (hi : i < n) (hri : r<=i) : KCore n C x0 c r κ (x.neg i):=by
 refine h.op (o:=.neg i) hi (fun a ha t _=>?_) (fun t ht a h1 h2=>?_)
 ·show negF x.s i a t = _
  unfold negF; rw [if_neg oM]
 ·show negF x.s i a t = _
  unfold negF; split
  ·rw [ht a h1 h2]; rfl
  ·exact ht a h1 h2
theorem KCore.redAdd (h : KCore n C x0 c r κ x) {i : Nat} (k : Int) (hi : i < r) (hr : r < n) (hc : c < C) : KCore n C x0 c r κ (x.add i r k):=by
 obtain ⟨l,l1,l2⟩:=h.ops;have hz : ∀t,t < c->x.s r t = 0:=fun t ht=>h.zero r (xgf _) hr t ht oM
 have hs : ∀a t,t < c->(x.add i r k).s a t = x.s a t:=fun a t ht=>by
  show addF x.s i r k a t = _;unfold addF; split
  ·rename_i e; rw [hz t ht,Int.mul_zero,Int.add_zero,e]
  ·rfl
 refine ⟨opsB_ex l1 l2 (okOps.cons (o:=.add i r k) ⟨by omega,hr,by omega⟩ okOps.nil) rfl,h.rn,⟨h.ech.lt,fun k hk=>?_,fun k hk t ht=>?_,h.ech.inc⟩,h.lt,fun i j h1 h2 h3=>?_,fun a h1 h2 t h3 h4=>?_⟩
 ·rw [hs _ _ (h.lt _ hk)]; exact h.ech.pos _ hk
 ·rw [hs _ _ (by have:=h.lt _ hk; omega)]; exact h.ech.zero _ hk t ht
 ·rw [hs _ _ (h.lt _ h2),hs _ _ (h.lt _ h2)]; exact h.red i j h1 h2 h3
 ·rw [hs _ _ h3]; exact h.zero a h1 h2 t h3 h4
structure KI (n C Ct b0 : Nat) (x0 : Bst) (c r : Nat) (κ : Nat->Nat) (i : Nat) (x : Bst) : Prop where
 core : KCore n C x0 c r κ x
 col : ∀a,r < a->a < i->x.s a c = 0
 same : x.s r c = 0->leB b0 n C Ct x
def EBd (n C Ct m : Nat) (X Y : Int) (x : Bst) : Prop:=
 leB m n C Ct x ∨ (0<=Y/\X.natAbs<=m/\Y.natAbs<=m/\leB (2 * m * m) n C Ct x) ∨ (0<=X/\0<=Y/\∃a,1<=a/\leB a n C Ct x/\a<=gx 5 m/\a * (2 * X.natAbs * Y.natAbs)<=gx 5 m)
theorem five_a {m : Nat} (hm : 1<=m) : 2 * m * m * (1 + m)<=gx 5 m/\2 * m * m * (1 + m) * (2 * m * m)<=gx 5 m/\m * (1 + m)<=2 * m * m/\2 * m * m<=gx 5 m/\m<=gx 5 m:=by
 rw [gx_five];have h1 : m * 1<=m * m:=Nat.mul_le_mul_left _ hm;have h2 : m * m * 1<=m * m * m:=Nat.mul_le_mul_left _ hm;have h3 : m * m * m * 1<=m * m * m * m:=Nat.mul_le_mul_left _ hm;have h4 : m * m * m * m * 1<=m * m * m * m * m:=Nat.mul_le_mul_left _ hm;have e1 : 2 * m * m * (1 + m) = 2 * (m * m) + 2 * (m * m * m):=by
  rw [Nat.mul_add,Nat.mul_one,Nat.mul_assoc 2 m m,Nat.mul_assoc 2 (m * m) m]
 have e2 : 2 * m * m * (1 + m) * (2 * m * m) = 4 * (m * m * m * m) + 4 * (m * m * m * m * m):=by
  have a1 : m * m * m * m = m * m * (m * m):=Nat.mul_assoc _ _ _;rw [e1,a1,Nat.mul_assoc 2 m m];generalize m * m = s;have a2 : 2 * s * (2 * s) = 4 * (s * s):=by rw [Nat.mul_mul_mul_comm]
  have a3 : 2 * (s * m) * (2 * s) = 4 * (s * s * m):=by rw [Nat.mul_mul_mul_comm,Nat.mul_right_comm s m s]
  rw [Nat.add_mul,a2,a3]
 have e3 : m * (1 + m) = m + m * m:=by rw [Nat.mul_add,Nat.mul_one]
 have e4 : 2 * m * m = 2 * (m * m):=Nat.mul_assoc _ _ _;rw [e2,e1,e3,e4];refine ⟨by omega,by omega,by omega,by omega,by omega⟩
theorem EBd.le {m : Nat} {X Y : Int} (hm : 1<=m) (h : EBd n C Ct m X Y x) : leB (gx 5 m) n C Ct x:=by
 obtain ⟨-,-,-,h4,h5⟩:=five_a hm;rcases h with h | ⟨-,-,-,h⟩ | ⟨-,-,a,-,h,h2,-⟩
 ·exact h.mono h5
 ·exact h.mono h4
 ·exact h.mono h2
theorem leB_swap {m i j : Nat} (h : leB m n C Ct x) (hi : i < n) (hj : j < n) : leB m n C Ct (x.swap i j):=by
 have:=leB_b (o:=.swap i j) h ⟨hi,hj⟩;rwa [show Op.g (.swap i j) = 1 from rfl,Nat.mul_one] at this
theorem leB_neg {m i : Nat} (h : leB m n C Ct x) (hi : i < n) : leB m n C Ct (x.neg i):=by
 have:=leB_b (o:=.neg i) h hi;rwa [show Op.g (.neg i) = 1 from rfl,Nat.mul_one] at this
theorem swap_at (x : Bst) (i j t : Nat) : (x.swap i j).s i t = x.s j t/\(x.swap i j).s j t = x.s i t/\∀a,a ≠ i->a ≠ j->(x.swap i j).s a t = x.s a t:=by
 refine ⟨?_,?_,fun a h1 h2=>?_⟩
 ·show x.s (swp i j i) t = _
  unfold swp; rw [if_pos rfl]
 ·show x.s (swp i j j) t = _
  unfold swp; split
  ·rename_i e; rw [e]
  ·rw [if_pos rfl]
 ·show x.s (swp i j a) t = _
  unfold swp; rw [if_neg h1,if_neg h2]
theorem KI.swap0 {b0 i m : Nat} (h : KI n C Ct b0 x0 c r κ i x) (hri : r < i) (hi : i < n) (hX : x.s r c = 0) (hY : x.s i c ≠ 0) (he : EBd n C Ct m (x.s r c) (x.s i c) x) :
  KI n C Ct b0 x0 c r κ i (x.swap r i)/\EBd n C Ct m ((x.swap r i).s r c) ((x.swap r i).s i c) (x.swap r i)/\(x.swap r i).s i c = 0:=by
 obtain ⟨s1,s2,s3⟩:=swap_at x r i c;have hr : r < n:=by omega
 rw [s1,s2];refine ⟨⟨h.core.swap hr hi (xgf _) oM,fun a h1 h2=>?_,fun e=>?_⟩,?_,hX⟩
 ·rw [s3 a oM oM]; exact h.col a h1 h2
 ·rw [s1] at e; exact absurd e hY
 ·rw [hX]
  rcases he with h | ⟨h1,h2,h3,h4⟩ | ⟨h1,h2,a,h3,h4,h5,h6⟩
  ·exact .inl (leB_swap h hr hi)
  ·exact .inr (.inl ⟨by omega,h3,by simp,leB_swap h4 hr hi⟩)
  ·exact .inr (.inr ⟨h2,by omega,a,h3,leB_swap h4 hr hi,h5,by simp⟩)
theorem pot_le {X Y q r : Nat} (h : X = q * Y + r) : (1 + q) * (2 * Y * r)<=2 * X * Y ∨ Y < r:=by
 rcases Nat.lt_or_ge Y r with h1 | h1
 ·exact .inr h1
 ·refine .inl ?_
  have h2 : q * r<=q * Y:=Nat.mul_le_mul_left _ h1;have h3 : (1 + q) * r<=X:=by rw [Nat.add_mul,Nat.one_mul]; omega
  have h4 : (1 + q) * (2 * Y * r) = 2 * Y * ((1 + q) * r):=by rw [Nat.mul_left_comm]
  have h5 : 2 * X * Y = 2 * Y * X:=by rw [Nat.mul_assoc,Nat.mul_assoc,Nat.mul_comm X]
  rw [h4,h5];exact Nat.mul_le_mul_left _ h3
theorem KI.step {b0 i m : Nat} (h : KI n C Ct b0 x0 c r κ i x) (hri : r < i) (hi : i < n) (hc : c < C) (hm : 1<=m) (hX : x.s r c ≠ 0) (hY : x.s i c ≠ 0) (he : EBd n C Ct m (x.s r c) (x.s i c) x) (hB : gx 5 m < B) :
  okAdd B n C Ct x r i (-(x.s r c / x.s i c))/\KI n C Ct b0 x0 c r κ i ((x.add r i (-(x.s r c / x.s i c))).swap r i)/\EBd n C Ct m (((x.add r i (-(x.s r c / x.s i c))).swap r i).s r c) (((x.add r i (-(x.s r c / x.s i c))).swap r i).s i c) ((x.add r i (-(x.s r c / x.s i c))).swap r i) ∧
   (((x.add r i (-(x.s r c / x.s i c))).swap r i).s i c).natAbs < (x.s i c).natAbs:=by
 have hr : r < n:=by omega
 obtain ⟨f1,f2,f3,f4,f5⟩:=five_a hm;have hdm:=Int.mul_ediv_add_emod (x.s r c) (x.s i c);have hr0:=Int.emod_nonneg (x.s r c) hY;have hrl:=Int.emod_lt (x.s r c) hY;have hqX:=div_abs (x.s r c) (x.s i c);obtain ⟨q,hq⟩ : ∃q,x.s r c / x.s i c = q:=⟨_,rfl⟩;obtain ⟨p,hp⟩ : ∃p,x.s r c % x.s i c = p:=⟨_,rfl⟩;rw [hq] at hqX hdm ⊢
 rw [hp] at hdm hr0 hrl;have hsr : (x.add r i (-q)).s r c = p:=by
  show addF x.s r i (-q) r c = _;unfold addF; rw [if_pos rfl,Int.neg_mul,Int.mul_comm q]; omega
 have hsi : ∀a,a ≠ r->(x.add r i (-q)).s a c = x.s a c:=fun a ha=>by
  show addF x.s r i (-q) a c = _;unfold addF; rw [if_neg ha]
 obtain ⟨s1,s2,s3⟩:=swap_at (x.add r i (-q)) r i c;rw [hsi i oM] at s1;rw [hsr] at s2;have hoa : (Op.add r i (-q)).ok n:=⟨hr,hi,by omega⟩;have hg : ∀{a : Nat},leB a n C Ct x->leB (a * (1 + q.natAbs)) n C Ct ((x.add r i (-q)).swap r i):=fun h=>by
  have:=leB_b h hoa;rw [show (Op.add r i (-q)).g = 1 + q.natAbs by simp [Op.g]] at this;exact leB_swap this hr hi
 have hk : ∀{a : Nat},1<=a->leB a n C Ct x->a * (1 + q.natAbs)<=gx 5 m->okAdd B n C Ct x r i (-q):=fun h1 h2 h3=>okAdd_of h2 hr hi oM h1 (by rw [Int.natAbs_neg]; omega)
 have hKI : KI n C Ct b0 x0 c r κ i ((x.add r i (-q)).swap r i):=⟨(h.core.add _ hr hi oM (xgf _) oM).swap hr hi (xgf _) oM,fun a h1 h2=>by
   rw [s3 a oM oM,hsi a oM]; exact h.col a h1 h2,fun e=>by rw [s1] at e; exact absurd e hY⟩
 rw [s1,s2];have hlast : p.natAbs < (x.s i c).natAbs:=by omega
 rcases he with he | ⟨e1,e2,e3,e4⟩ | ⟨e1,e2,a,e3,e4,e5,e6⟩
 ·have bX:=he.1 r hr c hc
  have bY:=he.1 i hi c hc;have hb : m * (1 + q.natAbs)<=2 * m * m:=Nat.le_trans (Nat.mul_le_mul_left _ oM) f3;exact ⟨hk hm he oM,hKI,.inr (.inl ⟨hr0,bY,by omega,(hg he).mono hb⟩),hlast⟩
 ·have hb : 2 * m * m * (1 + q.natAbs)<=2 * m * m * (1 + m):=Nat.mul_le_mul_left _ oM
  have h1 : 1<=2 * m * m:=Nat.le_trans hm (gk_one hm);have hy : (x.s i c).natAbs * p.natAbs<=m * m:=Nat.mul_le_mul e3 oM;refine ⟨hk h1 e4 oM,hKI,.inr (.inr ⟨e1,hr0,_,Nat.mul_pos h1 oM,hg e4,by omega,?_⟩),hlast⟩;refine Nat.le_trans (Nat.mul_le_mul hb ?_) f2;rw [Nat.mul_assoc,Nat.mul_assoc];exact Nat.mul_le_mul_left _ hy
 ·have hY0 : 0 < x.s i c:=by omega
  have hq0 : 0<=q:=by rw [<-hq]; exact Int.ediv_nonneg e1 e2
  have hXe : (x.s r c).natAbs = q.natAbs * (x.s i c).natAbs + p.natAbs:=by
   have h5 : ((q.natAbs * (x.s i c).natAbs + p.natAbs : Nat) : Int) = x.s r c:=by
    rw [Int.natCast_add,Int.natCast_mul,Int.natAbs_of_nonneg hq0,Int.natAbs_of_nonneg e2,Int.natAbs_of_nonneg hr0,Int.mul_comm]; exact hdm
   omega
  have hp1 : 1 + q.natAbs<=2 * (x.s r c).natAbs * (x.s i c).natAbs:=by
   have g1 : 2 * (x.s r c).natAbs * 1<=2 * (x.s r c).natAbs * (x.s i c).natAbs:=Nat.mul_le_mul_left _ oM;omega
  have hp2 : (1 + q.natAbs) * (2 * (x.s i c).natAbs * p.natAbs)<=2 * (x.s r c).natAbs * (x.s i c).natAbs:=by
   rcases pot_le hXe with g | g
   ·exact g
   ·omega
  have b1 : a * (1 + q.natAbs)<=gx 5 m:=Nat.le_trans (Nat.mul_le_mul_left _ hp1) e6;refine ⟨hk e3 e4 b1,hKI,.inr (.inr ⟨e2,hr0,_,Nat.mul_pos e3 oM,hg e4,b1,?_⟩),hlast⟩;rw [Nat.mul_assoc];exact Nat.le_trans (Nat.mul_le_mul_left _ hp2) e6
def eE (n : Nat) : Nat->Nat
 | 0=>1
 | r + 1=>eE n r * 5 ^ (n - (r + 1)) * 2 ^ r
theorem eE_pos (n : Nat) : ∀r,1<=eE n r
 | 0=>xgf _
 | r + 1=>Nat.mul_pos (Nat.mul_pos (eE_pos n r) (Nat.pow_pos oM)) (Nat.pow_pos oM)
theorem eE_mono (n : Nat) {a b : Nat} (h : a<=b) : eE n a<=eE n b:=by
 obtain ⟨d,rfl⟩:=Nat.exists_eq_add_of_le h;clear h;induction d with
 | zero=>exact xgf _
 | succ d ih=>
  refine Nat.le_trans ih ?_;show _<=eE n (a + d) * _ * _;rw [Nat.mul_assoc];exact Nat.le_mul_of_pos_right _ (Nat.mul_pos (Nat.pow_pos oM) (Nat.pow_pos oM))
theorem eE_le {n r : Nat} (hn : n<=4) (hr : r<=n) : eE n r<=2 ^ 20:=by
 refine Nat.le_trans (eE_mono n hr) ?_;rcases (by omega : n = 0 ∨ n = 1 ∨ n = 2 ∨ n = 3 ∨ n = 4) with rfl | rfl | rfl | rfl | rfl <;> decide
def eI (n r i : Nat) : Nat:=eE n r * 5 ^ (i - (r + 1))
theorem eI_pos (n r i : Nat) : 1<=eI n r i:=Nat.mul_pos (eE_pos n r) (Nat.pow_pos oM)
theorem eI_start (n r : Nat) : eI n r (r + 1) = eE n r:=by unfold eI; rw [Nat.sub_self,Nat.pow_zero,Nat.mul_one]
theorem eI_succ {n r i : Nat} (h : r < i) : eI n r (i + 1) = eI n r i * 5:=by
 unfold eI;rw [show i + 1 - (r + 1) = (i - (r + 1)) + 1 by omega,Nat.pow_succ,Nat.mul_assoc]
theorem eI_last (n r j : Nat) (hr : r < n) (hj : j<=r) : eI n r n * 2 ^ j<=eE n (r + 1):=by
 show _<=eE n r * 5 ^ (n - (r + 1)) * 2 ^ r;exact Nat.mul_le_mul_left _ (Nat.pow_le_pow_right oM hj)
theorem eI_le {n r i : Nat} (hr : r < n) (hi : i<=n) : eI n r i<=eE n (r + 1):=by
 refine Nat.le_trans ?_ (eI_last n r 0 hr oM);rw [Nat.pow_zero,Nat.mul_one];exact Nat.mul_le_mul_left _ (Nat.pow_le_pow_right oM oM)
def KO (n C Ct M0 : Nat) (x0 : Bst) (c r : Nat) (κ : Nat->Nat) (x : Bst) : Prop:=KCore n C x0 c r κ x/\leB (gx (eE n r) M0) n C Ct x
def KR (n C Ct M0 : Nat) (x0 : Bst) (c r : Nat) (κ : Nat->Nat) (i : Nat) (x : Bst) : Prop:=KI n C Ct (gx (eE n r) M0) x0 c r κ i x/\leB (gx (eI n r i) M0) n C Ct x
def KEu (n C Ct M0 : Nat) (x0 : Bst) (c r : Nat) (κ : Nat->Nat) (i : Nat) (x : Bst) : Prop:=KI n C Ct (gx (eE n r) M0) x0 c r κ i x/\EBd n C Ct (gx (eI n r i) M0) (x.s r c) (x.s i c) x
theorem KO.start (M1 : leB M0 n C Ct x0) : KO n C Ct M0 x0 0 0 κ x0:=
 ⟨⟨⟨[],okOps.nil,rfl⟩,Nat.zero_le _,⟨fun k hk=>by omega,fun k hk=>by omega,fun k hk=>by omega,fun k l _ hl=>by omega⟩,fun k hk=>by omega,fun i j _ hj=>by omega,fun a _ _ t ht=>by omega⟩,by
  show leB (gx 1 M0) n C Ct x0
  rw [gx_one]; exact M1⟩
theorem KO.enter (h : KO n C Ct M0 x0 c r κ x) : KR n C Ct M0 x0 c r κ (r + 1) x:=⟨⟨h.1,fun a h1 h2=>by omega,fun _=>h.2⟩,by rw [eI_start]; exact h.2⟩
theorem KR.enter {i : Nat} (h : KR n C Ct M0 x0 c r κ i x) : KEu n C Ct M0 x0 c r κ i x:=⟨h.1,.inl h.2⟩
theorem KEu.exit {i : Nat} (hM0 : 1<=M0) (h : KEu n C Ct M0 x0 c r κ i x) (hri : r < i) (hY : x.s i c = 0) : KR n C Ct M0 x0 c r κ (i + 1) x:=by
 refine ⟨⟨h.1.core,fun a h1 h2=>?_,h.1.same⟩,?_⟩
 ·by_cases e : a = i
  ·rw [e]; exact hY
  ·exact h.1.col a h1 oM
 ·rw [eI_succ hri,<-gx_gx (eI_pos _ _ _)]
  exact h.2.le (Nat.le_trans hM0 (gx_ge hM0 (eI_pos _ _ _)))
theorem KR.none (h : KR n C Ct M0 x0 c r κ n x) (hX : x.s r c = 0) : KO n C Ct M0 x0 (c + 1) r κ x:=by
 obtain ⟨h1,h2⟩:=h;refine ⟨⟨h1.core.ops,h1.core.rn,h1.core.ech,fun k hk=>Nat.lt_succ_of_lt (h1.core.lt k hk),h1.core.red,fun a g1 g2 t g3 g4=>?_⟩,h1.same hX⟩;by_cases e : t = c
 ·subst e
  by_cases e2 : a = r
  ·rw [e2]; exact hX
  ·exact h1.col a oM g2
 ·exact h1.core.zero a g1 g2 t oM g4
structure KD (n C Ct M0 : Nat) (x0 : Bst) (c r : Nat) (κ : Nat->Nat) (i : Nat) (x : Bst) : Prop where
 core : KCore n C x0 c r κ x
 pos : 0 < x.s r c
 col : ∀a,r < a->a < n->x.s a c = 0
 red : ∀a,a < i->0<=x.s a c/\x.s a c < x.s r c
 bd : leB (gx (eI n r n * 2 ^ i) M0) n C Ct x
theorem KR.pos (h : KR n C Ct M0 x0 c r κ n x) (hX : 0 < x.s r c) : KD n C Ct M0 x0 c r κ 0 x:=
 ⟨h.1.core,hX,fun a h1 h2=>h.1.col a h1 h2,fun a ha=>by omega,by rw [Nat.pow_zero,Nat.mul_one]; exact h.2⟩
theorem KR.neg (h : KR n C Ct M0 x0 c r κ n x) (hr : r < n) (hX : x.s r c < 0) : KD n C Ct M0 x0 c r κ 0 (x.neg r):=by
 have hs : ∀a t,(x.neg r).s a t = if a = r then -(x.s a t) else x.s a t:=fun a t=>rfl
 refine ⟨h.1.core.neg hr (xgf _),?_,fun a h1 h2=>?_,fun a ha=>by omega,?_⟩
 ·rw [hs,if_pos rfl]; omega
 ·rw [hs,if_neg oM]; exact h.1.col a h1 h2
 ·rw [Nat.pow_zero,Nat.mul_one]; exact leB_neg h.2 hr
theorem KD.step {i : Nat} (hM0 : 1<=M0) (h : KD n C Ct M0 x0 c r κ i x) (hi : i < r) (hr : r < n) (hc : c < C) (hB : gx (eE n (r + 1)) M0 < B) :
  okAdd B n C Ct x i r (-(x.s i c / x.s r c))/\KD n C Ct M0 x0 c r κ (i + 1) (x.add i r (-(x.s i c / x.s r c))):=by
 obtain ⟨h1,h2,h3,h4,h5⟩:=h;have hdm:=Int.mul_ediv_add_emod (x.s i c) (x.s r c);have hr0:=Int.emod_nonneg (x.s i c) (b:=x.s r c) oM;have hrl:=Int.emod_lt_of_pos (x.s i c) h2;have hq:=div_abs (x.s i c) (x.s r c);obtain ⟨q,hq'⟩ : ∃q,x.s i c / x.s r c = q:=⟨_,rfl⟩;rw [hq'] at hdm hq ⊢
 have hep : 1<=eI n r n * 2 ^ i:=Nat.mul_pos (eI_pos _ _ _) (Nat.pow_pos oM);have hm1 : 1<=gx (eI n r n * 2 ^ i) M0:=Nat.le_trans hM0 (gx_ge hM0 hep);have hqm : q.natAbs<=gx (eI n r n * 2 ^ i) M0:=Nat.le_trans hq (h5.1 i oM c hc);have hst:=one_step hm1 hqm;have hgg : 2 * gx (eI n r n * 2 ^ i) M0 * gx (eI n r n * 2 ^ i) M0 = gx (eI n r n * 2 ^ (i + 1)) M0:=by
  rw [<-gx_sq,gx_gx hep,Nat.pow_succ,Nat.mul_assoc]
 have hle : gx (eI n r n * 2 ^ (i + 1)) M0<=gx (eE n (r + 1)) M0:=gx_mono hM0 (eI_last n r (i + 1) hr oM);have hs : ∀a t,(x.add i r (-q)).s a t = if a = i then x.s i t + -q * x.s r t else x.s a t:=fun a t=>rfl
 have hb:=leB_b (o:=.add i r (-q)) h5 ⟨by omega,hr,by omega⟩;rw [show (Op.add i r (-q)).g = 1 + q.natAbs by simp [Op.g]] at hb;refine ⟨okAdd_of h5 oM hr oM hm1 (by rw [Int.natAbs_neg]; omega),⟨h1.redAdd _ hi hr hc,?_,fun a g1 g2=>?_,fun a ha=>?_,hb.mono oM⟩⟩
 ·rw [hs,if_neg oM]; exact h2
 ·rw [hs,if_neg oM]; exact h3 a g1 g2
 ·rw [hs,hs,if_neg (show ¬ r = i by omega)]
  split
  ·rename_i e
   rw [Int.neg_mul,Int.mul_comm q];constructor <;> omega
  ·exact h4 a oM
theorem KD.exit (hM0 : 1<=M0) (h : KD n C Ct M0 x0 c r κ r x) (hr : r < n) (hc : c < C) : KO n C Ct M0 x0 (c + 1) (r + 1) (fun k=>if k = r then c else κ k) x:=by
 obtain ⟨h1,h2,h3,h4,h5⟩:=h;have e1 : ∀k,k < r->(if k = r then c else κ k) = κ k:=fun k hk=>if_neg oM
 refine ⟨⟨h1.ops,hr,⟨fun k hk=>?_,fun k hk=>?_,fun k hk t ht=>?_,fun k l h hl=>?_⟩,fun k hk=>?_,fun i j g1 g2 _=>?_,fun a g1 g2 t g3 g4=>?_⟩,h5.mono (gx_mono hM0 (eI_last n r r hr (xgf _)))⟩
 ·by_cases e : k = r
  ·rw [if_pos e]; exact hc
  ·rw [e1 k oM]; exact h1.ech.lt k oM
 ·by_cases e : k = r
  ·rw [if_pos e,e]; exact h2
  ·rw [e1 k oM]; exact h1.ech.pos k oM
 ·skip
  by_cases e : k = r
  ·rw [if_pos e] at ht; rw [e]; exact h1.zero r (xgf _) hr t ht oM
  ·rw [e1 k oM] at ht; exact h1.ech.zero k oM t ht
 ·rw [e1 k oM]
  by_cases e : l = r
  ·rw [if_pos e]; exact h1.lt k oM
  ·rw [e1 l oM]; exact h1.ech.inc k l h oM
 ·by_cases e : k = r
  ·rw [if_pos e]; omega
  ·rw [e1 k oM]; have:=h1.lt k oM; omega
 ·by_cases e : j = r
  ·rw [if_pos e,e]; exact h4 i oM
  ·rw [e1 j oM]; exact h1.red i j g1 oM trivial
 ·by_cases e : t = c
  ·rw [e]; exact h3 a oM g2
  ·exact h1.zero a oM g2 t oM g4
theorem KO.form {R C : Nat} {A : Nat->Nat->Int} (h : KO R C R M0 ⟨A,idf,idf⟩ c r κ x) (he : c = C ∨ r = R) : HForm R C r κ A x.s x.t (fun a b=>x.i b a):=by
 obtain ⟨h1,h2⟩:=h;obtain ⟨l,hl,hx⟩:=h1.ops;rw [opsB_eq] at hx;have hs : x.s = opsF l A:=by rw [hx]
 have ht : x.t = opsF l idf:=by rw [hx]
 have hi : x.i = opsD l idf:=by rw [hx]
 refine ⟨⟨h1.rn,h1.ech,h1.red,fun a g1 g2 t g3=>?_⟩,fun a ha b hb=>?_,fun a ha b hb=>?_,fun a ha b hb=>?_⟩
 ·rcases he with e | e
  ·exact h1.zero a g1 g2 t oM g3
  ·omega
 ·rw [hs,ht]; exact ops_mat hl A a ha b
 ·rw [ht,hi]; exact ops_dot hl (P:=idf) (Q:=idf) (C:=R) (fun a ha b hb=>dot_idf R a ha b hb) a ha b hb
 ·rw [hs,hi]; exact ops_back hl A a ha b
end
abbrev tWk : TypeId:=102
def upR (F G : Nat->Nat->Int) (i c : Nat) : Nat->Nat->Int:=fun a b=>if a = i/\b < c then G a b else F a b
def upC (F G : Nat->Nat->Int) (j r : Nat) : Nat->Nat->Int:=fun a b=>if b = j/\a < r then G a b else F a b
def putF (F : Nat->Nat->Int) (i c : Nat) (z : Int) : Nat->Nat->Int:=fun a b=>if a = i/\b = c then z else F a b
theorem upR_zero (F G : Nat->Nat->Int) (i : Nat) : upR F G i 0 = F:=by funext a b; unfold upR; rw [if_neg oM]
theorem upC_zero (F G : Nat->Nat->Int) (j : Nat) : upC F G j 0 = F:=by funext a b; unfold upC; rw [if_neg oM]
theorem upR_put {F G : Nat->Nat->Int} {i c : Nat} {z : Int} (hz : z = G i c) : putF (upR F G i c) i c z = upR F G i (c + 1):=by
 subst hz
 funext a b
 unfold putF upR;by_cases h1 : a = i/\b = c
 ·obtain ⟨rfl,rfl⟩:=h1
  rw [if_pos ⟨rfl,rfl⟩,if_pos ⟨rfl,by omega⟩]
 ·rw [if_neg h1]
  by_cases h2 : a = i/\b < c
  ·rw [if_pos h2,if_pos ⟨h2.1,by omega⟩]
  ·rw [if_neg h2,if_neg (fun h=>h2 ⟨h.1,by omega⟩)]
theorem upC_put {F G : Nat->Nat->Int} {j r : Nat} {z : Int} (hz : z = G r j) : putF (upC F G j r) r j z = upC F G j (r + 1):=by
 subst hz
 funext a b
 unfold putF upC;by_cases h1 : a = r/\b = j
 ·obtain ⟨rfl,rfl⟩:=h1
  rw [if_pos ⟨rfl,rfl⟩,if_pos ⟨rfl,by omega⟩]
 ·rw [if_neg h1]
  by_cases h2 : b = j/\a < r
  ·rw [if_pos h2,if_pos ⟨h2.1,by omega⟩]
  ·rw [if_neg h2,if_neg (fun h=>h2 ⟨h.1,by omega⟩)]
theorem upR_at (F G : Nat->Nat->Int) (i c : Nat) : upR F G i c i c = F i c:=by unfold upR; rw [if_neg oM]
theorem upR_ne {F G : Nat->Nat->Int} {i j : Nat} (c b : Nat) (h : i ≠ j) : upR F G i c j b = F j b:=by unfold upR; rw [if_neg (fun e=>h e.1.symm)]
theorem upC_at (F G : Nat->Nat->Int) (j r : Nat) : upC F G j r r j = F r j:=by unfold upC; rw [if_neg oM]
theorem upC_ne {F G : Nat->Nat->Int} {i j : Nat} (r b : Nat) (h : j ≠ i) : upC F G j r b i = F b i:=by unfold upC; rw [if_neg (fun e=>h e.1.symm)]
theorem oz2 {w : World} {b i j : Nat} {u v : Value} (hx : LExt w ((w.setCell ⟨b,i,none⟩ u).setCell ⟨b,j,none⟩ v)) : OnlyZ (fun k=>k = b) w ((w.setCell ⟨b,i,none⟩ u).setCell ⟨b,j,none⟩ v):=
 ⟨bset (bset (Below.refl _ _) (Nat.zero_le _) _ _) (Nat.zero_le _) _ _,hx,fun k _ hk=>set2_old _ _ _ _ _ _ _ hk⟩
section
variable {w : World} {A : Value} {g n cap R C : Nat} {bs : List Nat} {F : Nat->Nat->Int}
theorem Wri.congr {G : Nat->Nat->Int} (h : Wri w A R C bs F) (e : ∀a,a < R->∀b,b < C->F a b = G a b) : Wri w A R C bs G:=by
 unfold Wri at h ⊢
 rwa [<-genM_congr e]
theorem Wri.base (h : Wri w A R C bs F) (hR : 0 < R) : ∃g cap,A = .slice (some ⟨g,0,none⟩) R cap:=by
 obtain ⟨ao,n,cap,rfl,-⟩:=id (RowsO.rows h);obtain ⟨g,b,rfl,-,-,-,-,e⟩:=RowsO.at_ h (i:=0) (by rw [h.len]; exact hR);rw [h.len] at e;subst e;exact ⟨g,cap,rfl⟩
theorem Wri.rowc (h : Wri w (.slice (some ⟨g,0,none⟩) n cap) R C bs F) {i b : Nat} (hi : i < R) (hb : bs[i]? = some b) : w.cell? ⟨g,i,none⟩ = some (.slice (some ⟨b,0,none⟩) C C):=by
 obtain ⟨g',b',e,-,hb',-,o,-⟩:=RowsO.at_ h (i:=i) (by rw [h.len]; exact hi);obtain rfl : g = g':=by injection e with e; injection e
 rw [hb] at hb';injection hb' with hb'
 subst hb';exact o
theorem Wri.bex (h : Wri w A R C bs F) {i : Nat} (hi : i < R) : ∃b,bs[i]? = some b:=⟨_,xga (by rw [h.len]; exact hi)⟩
theorem Wri.elem (h : Wri w A R C bs F) {i b c : Nat} (hi : i < R) (hb : bs[i]? = some b) (hc : c < C) :
  ∃s a l k,w.cell? ⟨b,c * 2,none⟩ = some (.bool s)/\w.cell? ⟨b,c * 2 + 1,none⟩ = some (.slice a l k)/\w.frozen? ⟨b,c * 2,none⟩ = false/\w.frozen? ⟨b,c * 2 + 1,none⟩ = false/\IntV w (.agg #[.bool s,.slice a l k]) (F i c):=by
 have:=RowsO.cellAt h hb hc;rwa [ent_genM hi hc] at this
theorem Wri.putc (h : Wri w A R C bs F) {i b c : Nat} (hi : i < R) (hb : bs[i]? = some b) (hc : c < C) {s : Bool} {a : Option Addr} {l k : Nat} {z : Int} (hv : IntV w (.agg #[.bool s,.slice a l k]) z) :
  Wri ((w.setCell ⟨b,c * 2,none⟩ (.bool s)).setCell ⟨b,c * 2 + 1,none⟩ (.slice a l k)) A R C bs (putF F i c z)/\OnlyZ (fun k=>k = b) w ((w.setCell ⟨b,c * 2,none⟩ (.bool s)).setCell ⟨b,c * 2 + 1,none⟩ (.slice a l k)):=by
 obtain ⟨h1,h2,-⟩:=RowsO.set h hb hc hv;rw [setM_genM z hi hc] at h1;exact ⟨h1,oz2 h2⟩
theorem Wri.keep1 (h : Wri w A R C bs F) {w' : World} {b : Nat} (ho : OnlyZ (fun k=>k = b) w w') (hb : ¬ Zn A bs b) : Wri w' A R C bs F:=h.keepZ ho fun k hk e=>hb (by rw [<-e]; exact hk)
end
structure K9 (w : World) (bw : Nat) (AM AU AV : Value) (R C : Nat) (bm bu bv : List Nat) (S T V : Nat->Nat->Int) : Prop where
 blk : Blk w bw tWk #[.int .i64 R,.int .i64 C,AM,.int .i64 R,.int .i64 R,AU,.int .i64 R,.int .i64 R,AV]
 m : Wri w AM R C bm S
 u : Wri w AU R R bu T
 v : Wri w AV R R bv V
 mu : Ap AM bm AU bu
 mv : Ap AM bm AV bv
 uv : Ap AU bu AV bv
section
variable {w w' : World} {bw : Nat} {AM AU AV : Value} {R C : Nat} {bm bu bv : List Nat} {S T V : Nat->Nat->Int}
theorem K9.below (h : K9 w bw AM AU AV R C bm bu bv S T V) (hb : Below w.heap.size w w') : K9 w' bw AM AU AV R C bm bu bv S T V:=⟨h.blk.below hb,h.m.below hb,h.u.below hb,h.v.below hb,h.mu,h.mv,h.uv⟩
theorem K9.nm (h : K9 w bw AM AU AV R C bm bu bv S T V) : ¬ Zn AM bm bw:=h.m.nzb h.blk dE dE
theorem K9.nu (h : K9 w bw AM AU AV R C bm bu bv S T V) : ¬ Zn AU bu bw:=h.u.nzb h.blk dE dE
theorem K9.nv (h : K9 w bw AM AU AV R C bm bu bv S T V) : ¬ Zn AV bv bw:=h.v.nzb h.blk dE dE
theorem K9.putM (h : K9 w bw AM AU AV R C bm bu bv S T V) {i b c : Nat} (hi : i < R) (hb : bm[i]? = some b) (hc : c < C) {s : Bool} {a : Option Addr} {l k : Nat} {z : Int} (hv : IntV w (.agg #[.bool s,.slice a l k]) z) :
  K9 ((w.setCell ⟨b,c * 2,none⟩ (.bool s)).setCell ⟨b,c * 2 + 1,none⟩ (.slice a l k)) bw AM AU AV R C bm bu bv (putF S i c z) T V/\OnlyZ (fun k=>k = b) w ((w.setCell ⟨b,c * 2,none⟩ (.bool s)).setCell ⟨b,c * 2 + 1,none⟩ (.slice a l k)):=by
 obtain ⟨h1,h2⟩:=h.m.putc hi hb hc hv;have hz : Zn AM bm b:=.inl (xgd hb);exact ⟨⟨h2.blk h.blk (fun e=>h.nm (by rw [e]; exact hz)),h1,h.u.keep1 h2 (h.mu b hz),h.v.keep1 h2 (h.mv b hz),h.mu,h.mv,h.uv⟩,h2⟩
theorem K9.putU (h : K9 w bw AM AU AV R C bm bu bv S T V) {i b c : Nat} (hi : i < R) (hb : bu[i]? = some b) (hc : c < R) {s : Bool} {a : Option Addr} {l k : Nat} {z : Int} (hv : IntV w (.agg #[.bool s,.slice a l k]) z) :
  K9 ((w.setCell ⟨b,c * 2,none⟩ (.bool s)).setCell ⟨b,c * 2 + 1,none⟩ (.slice a l k)) bw AM AU AV R C bm bu bv S (putF T i c z) V/\OnlyZ (fun k=>k = b) w ((w.setCell ⟨b,c * 2,none⟩ (.bool s)).setCell ⟨b,c * 2 + 1,none⟩ (.slice a l k)):=by
 obtain ⟨h1,h2⟩:=h.u.putc hi hb hc hv;have hz : Zn AU bu b:=.inl (xgd hb);exact ⟨⟨h2.blk h.blk (fun e=>h.nu (by rw [e]; exact hz)),h.m.keep1 h2 (fun hh=>h.mu b hh hz),h1,h.v.keep1 h2 (h.uv b hz),h.mu,h.mv,h.uv⟩,h2⟩
theorem K9.putV (h : K9 w bw AM AU AV R C bm bu bv S T V) {i b c : Nat} (hi : i < R) (hb : bv[i]? = some b) (hc : c < R) {s : Bool} {a : Option Addr} {l k : Nat} {z : Int} (hv : IntV w (.agg #[.bool s,.slice a l k]) z) :
  K9 ((w.setCell ⟨b,c * 2,none⟩ (.bool s)).setCell ⟨b,c * 2 + 1,none⟩ (.slice a l k)) bw AM AU AV R C bm bu bv S T (putF V i c z)/\OnlyZ (fun k=>k = b) w ((w.setCell ⟨b,c * 2,none⟩ (.bool s)).setCell ⟨b,c * 2 + 1,none⟩ (.slice a l k)):=by
 obtain ⟨h1,h2⟩:=h.v.putc hi hb hc hv;have hz : Zn AV bv b:=.inl (xgd hb);exact ⟨⟨h2.blk h.blk (fun e=>h.nv (by rw [e]; exact hz)),h.m.keep1 h2 (fun hh=>h.mv b hh hz),h.u.keep1 h2 (fun hh=>h.uv b hh hz),h1,h.mu,h.mv,h.uv⟩,h2⟩
theorem K9.congr {S' T' V' : Nat->Nat->Int} (h : K9 w bw AM AU AV R C bm bu bv S T V) (e1 : ∀a,a < R->∀b,b < C->S a b = S' a b) (e2 : ∀a,a < R->∀b,b < R->T a b = T' a b) (e3 : ∀a,a < R->∀b,b < R->V a b = V' a b) : K9 w bw AM AU AV R C bm bu bv S' T' V':=
 ⟨h.blk,h.m.congr e1,h.u.congr e2,h.v.congr e3,h.mu,h.mv,h.uv⟩
def Z3 (AM AU AV : Value) (bm bu bv : List Nat) (b : Nat) : Prop:=Zn AM bm b ∨ Zn AU bu b ∨ Zn AV bv b
theorem K9.zlt (h : K9 w bw AM AU AV R C bm bu bv S T V) {b : Nat} (hb : Z3 AM AU AV bm bu bv b) : b < w.heap.size:=by
 rcases hb with hb | hb | hb
 ·exact h.m.zlt hb
 ·exact h.u.zlt hb
 ·exact h.v.zlt hb
end
def KW (Z : Nat->Prop) (w : World) (bw R C : Nat) (x : Bst) : Prop:=∃AM AU AV bm bu bv,K9 w bw AM AU AV R C bm bu bv x.s x.t (fun a b=>x.i b a)/\∀b,Z3 AM AU AV bm bu bv b->Z b
theorem KW.below {Z : Nat->Prop} {w w' : World} {bw R C : Nat} {x : Bst} (h : KW Z w bw R C x) (hb : Below w.heap.size w w') : KW Z w' bw R C x:=by
 obtain ⟨a,b,c,d,e,f,h1,h2⟩:=h;exact ⟨a,b,c,d,e,f,h1.below hb,h2⟩
end Go.Proofs.YtgnmdddaiefooaaGreat
