/- smith's take, reduce and echelon (the mirror) end within bounds. Plain Lean. -/
import Derived.Test.YtnocgagoaldfnaaGreatD25
set_option linter.unusedVariables false
set_option linter.unusedSimpArgs false
set_option linter.unusedSectionVars false
namespace Go.Proofs.YtnocgagoaldfnaaGreat
open Go.RowKit
def TakeP (Cs m rank : Nat) (F G : Nat->Nat->Int) (b : Bool) (c' : Nat->Nat) : Prop:=
 Ech Cs (if b then rank + 1 else rank) c' G/\(∀a,(if b then rank + 1 else rank)<=a->a<=m->∀t,t < Cs->G a t = 0)/\∀a,m < a->∀t,G a t = F a t
theorem take_neg {B n Cs Ct m rank k : Nat} {x : Bst} {c : Nat->Nat} (hl : lead Cs x.s m < 0) (hE : Ech Cs rank c x.s) (hz : ∀a,rank<=a->a < m->∀t,t < Cs->x.s a t = 0) :
  takeGo B n Cs Ct m rank 1 k x = some (opsB [] x,false)/\TakeP Cs m rank x.s (opsF [] x.s) false c:=by
 refine ⟨?_,hE,fun a h1 h2 t ht=>?_,fun a h t=>rfl⟩
 ·unfold takeGo
  rw [if_pos hl]
  rfl
 ·rcases Nat.lt_or_ge a m with h3 | h3
  ·exact hz a h1 h3 t ht
  ·obtain rfl : a = m:=by omega
   exact lead_lt0 hl t ht
theorem take_put {B n Cs Ct m rank k k' c0 : Nat} {x : Bst} {c : Nat->Nat} (hrm : rank<=m) (hmn : m < n) (hl : lead Cs x.s m = (c0 : Int)) (hc0 : c0 < Cs) (h0 : x.s m c0 ≠ 0) (h0z : ∀t,t < c0->x.s m t = 0)
  (hE : Ech Cs rank c x.s) (hz : ∀a,rank<=a->a < m->∀t,t < Cs->x.s a t = 0) (ha : adv (lead Cs x.s) (lead Cs x.s m) (rank - k) k = k') (hk' : k'<=rank) (hlow : ∀i,i < k'->c i < c0) (hhigh : k' < rank->c0 < c k') :
  ∃l,takeGo B n Cs Ct m rank 1 k x = some (opsB l x,true)/\okOps n l/\gro l = 1/\TakeP Cs m rank x.s (opsF l x.s) true (fun a=>if a < k' then c a else if a = k' then c0 else c (a - 1)):=by
 have hcn : (lead Cs x.s m).toNat = c0:=by rw [hl]; rfl
 have e1 : takeGo B n Cs Ct m rank 1 k x = some (rotB k' (rank - k') ((if x.s m c0 < 0 then x.neg m else x).swap m rank),true):=by
  unfold takeGo
  rw [ha,hcn,if_neg oM,if_neg]
  rintro ⟨h1,h2⟩
  rw [hE.lead h1,hl] at h2
  have:=hhigh h1
  omega
 obtain ⟨ng,hng⟩ : ∃ng : List Op,ng = if x.s m c0 < 0 then [.neg m] else []:=⟨_,rfl⟩
 have e2 : (if x.s m c0 < 0 then x.neg m else x) = opsB ng x:=by
  rw [hng]; split <;> rfl
 have hnok : okOps n ng:=by
  rw [hng]; split
  ·exact okOps.cons hmn okOps.nil
  ·exact okOps.nil
 have hngr : gro ng = 1:=by rw [hng]; split <;> rfl
 obtain ⟨g,hg1,hg2⟩ : ∃g : Int,(g = 1 ∨ g = -1)/\(∀a t,opsF ng x.s a t = if a = m then g * x.s m t else x.s a t)/\0 < g * x.s m c0:=by
  rw [hng]
  by_cases h : x.s m c0 < 0
  ·rw [if_pos h]
   refine ⟨-1,.inr rfl,fun a t=>?_,by omega⟩
   show negF x.s m a t = _
   unfold negF
   by_cases e : a = m
   ·rw [if_pos e,if_pos e,e]; omega
   ·rw [if_neg e,if_neg e]
  ·rw [if_neg h]
   refine ⟨1,.inl rfl,fun a t=>?_,by omega⟩
   show x.s a t = _
   by_cases e : a = m
   ·rw [if_pos e,e]; omega
   ·rw [if_neg e]
 obtain ⟨hg2,hg3⟩:=hg2
 refine ⟨ng ++ (.swap m rank :: rotOps k' (rank - k')),?_,hnok.app (okOps.cons ⟨hmn,by omega⟩ (rotOps_ok oM)),by simp [gro_app,gro,hngr,rotOps_gro,Op.g],?_⟩
 ·rw [e1,e2,rotB_ops,opsB_app]
  rfl
 have hF : ∀a t,opsF (ng ++ (.swap m rank :: rotOps k' (rank - k'))) x.s a t = if swp m rank (rotI k' (rank - k') a) = m then g * x.s m t else x.s (swp m rank (rotI k' (rank - k') a)) t:=by
  intro a t
  rw [opsF_app]
  show opsF (rotOps k' (rank - k')) (swpF (opsF ng x.s) m rank) a t = _
  rw [rotOps_f]
  show opsF ng x.s (swp m rank (rotI k' (rank - k') a)) t = _
  exact hg2 _ _
 have f1 : ∀a,a < k'->∀t,opsF (ng ++ (.swap m rank :: rotOps k' (rank - k'))) x.s a t = x.s a t:=fun a h t=>by
  have e : swp m rank (rotI k' (rank - k') a) = a:=by unfold swp rotI; split <;> split <;> (try split) <;> (try split) <;> (try split) <;> omega
  rw [hF,e,if_neg oM]
 have f2 : ∀t,opsF (ng ++ (.swap m rank :: rotOps k' (rank - k'))) x.s k' t = g * x.s m t:=fun t=>by
  have e : swp m rank (rotI k' (rank - k') k') = m:=by unfold swp rotI; split <;> (try split) <;> (try split) <;> omega
  rw [hF,e,if_pos rfl]
 have f3 : ∀a,k' < a->a<=rank->∀t,opsF (ng ++ (.swap m rank :: rotOps k' (rank - k'))) x.s a t = x.s (a - 1) t:=fun a h h' t=>by
  have e : swp m rank (rotI k' (rank - k') a) = a - 1:=by unfold swp rotI; split <;> split <;> (try split) <;> (try split) <;> (try split) <;> omega
  rw [hF,e,if_neg oM]
 have f4 : ∀a,rank < a->a ≠ m->∀t,opsF (ng ++ (.swap m rank :: rotOps k' (rank - k'))) x.s a t = x.s a t:=fun a h h' t=>by
  have e : swp m rank (rotI k' (rank - k') a) = a:=by unfold swp rotI; split <;> split <;> (try split) <;> (try split) <;> (try split) <;> omega
  rw [hF,e,if_neg oM]
 have f5 : rank < m->∀t,opsF (ng ++ (.swap m rank :: rotOps k' (rank - k'))) x.s m t = x.s rank t:=fun h t=>by
  have e : swp m rank (rotI k' (rank - k') m) = rank:=by unfold swp rotI; split <;> split <;> (try split) <;> (try split) <;> (try split) <;> omega
  rw [hF,e,if_neg oM]
 generalize opsF (ng ++ (.swap m rank :: rotOps k' (rank - k'))) x.s = G at f1 f2 f3 f4 f5
 refine ⟨⟨fun a h=>?_,fun a h=>?_,fun a h t ht=>?_,fun a b hab hb=>?_⟩,fun a h1 h2 t ht=>?_,fun a h t=>f4 a oM oM t⟩
 ·simp only [if_true] at h
  split
  ·exact hE.lt a oM
  ·split
   ·exact hc0
   ·exact hE.lt (a - 1) oM
 ·simp only [if_true] at h
  rcases Nat.lt_trichotomy a k' with h1 | h1 | h1
  ·rw [if_pos h1,f1 a h1]; exact hE.pos a oM
  ·rw [if_neg oM,if_pos h1,h1,f2]; exact hg3
  ·rw [if_neg oM,if_neg oM,f3 a h1 oM]; exact hE.pos (a - 1) oM
 ·simp only [if_true] at h
  rcases Nat.lt_trichotomy a k' with h1 | h1 | h1
  ·rw [if_pos h1] at ht
   rw [f1 a h1]; exact hE.zero a oM t ht
  ·rw [if_neg oM,if_pos h1] at ht
   rw [h1,f2,h0z t ht,Int.mul_zero]
  ·rw [if_neg oM,if_neg oM] at ht
   rw [f3 a h1 oM]; exact hE.zero (a - 1) oM t ht
 ·simp only [if_true] at hb
  have hup : ∀b,k' < b->b < rank + 1->c0 < c (b - 1):=fun b h1 h2=>by
   rcases Nat.lt_or_ge k' (b - 1) with h3 | h3
   ·have:=hE.inc k' (b - 1) h3 oM
    have:=hhigh oM
    omega
   ·obtain h4 : b - 1 = k':=by omega
    rw [h4]; exact hhigh oM
  rcases Nat.lt_trichotomy b k' with h1 | h1 | h1
  ·rw [if_pos oM,if_pos h1]; exact hE.inc a b hab oM
  ·rw [if_pos oM,if_neg oM,if_pos h1]; exact hlow a oM
  ·rw [if_neg (show ¬ b < k' by omega),if_neg (show ¬ b = k' by omega)]
   have hb2:=hup b h1 hb
   rcases Nat.lt_trichotomy a k' with h2 | h2 | h2
   ·rw [if_pos h2]
    have:=hlow a h2
    omega
   ·rw [if_neg oM,if_pos h2]; exact hb2
   ·rw [if_neg oM,if_neg oM]
    exact hE.inc _ _ oM oM
 ·simp only [if_true] at h1
  by_cases e : a = m
  ·rw [e,f5 oM]; exact hz rank (Nat.le_refl _) oM t ht
  ·rw [f4 a oM e]; exact hz a oM oM t ht
theorem take_ends {B n Cs Ct m rank : Nat} (hrm : rank<=m) (hmn : m < n) : ∀(j k : Nat) (x : Bst) (M T : Nat) (c : Nat->Nat),rank<=k + j->k<=rank->leB M n Cs Ct x->leM T n Cs x.s->1<=T->1<=M->Ech Cs rank c x.s ->
  (∀a,rank<=a->a < m->∀t,t < Cs->x.s a t = 0)->(∀i,i < k->lead Cs x.s m < 0 ∨ lead Cs x.s i < lead Cs x.s m)->(∀G,2 * T * G<=(2 * T) ^ (4 ^ j)->M * G < B) ->
  ∃f l b c',takeGo B n Cs Ct m rank f k x = some (opsB l x,b)/\okOps n l/\2 * T * gro l<=(2 * T) ^ (4 ^ j)/\TakeP Cs m rank x.s (opsF l x.s) b c':=by
 intro j
 induction j with
 | zero=>
  intro k x M T c hkj hkr hM hT hT1 hM1 hE hz hL hB
  by_cases hl : lead Cs x.s m < 0
  ·obtain ⟨h1,h2⟩:=take_neg (B:=B) (n:=n) (Ct:=Ct) (k:=k) hl hE hz
   exact ⟨1,[],false,c,h1,okOps.nil,by simp [gro],h2⟩
  ·obtain ⟨c0,h1,h2,h3,h4⟩:=lead_nat hl
   obtain rfl : k = rank:=by omega
   obtain ⟨l,g1,g2,g3,g4⟩:=take_put (B:=B) (n:=n) (Ct:=Ct) (k:=k) (k':=k) hrm hmn h1 h2 h3 h4 hE hz (adv_stay fun h=>by omega) (Nat.le_refl _) (fun i hi=>by
    have:=hL i hi
    rw [hE.lead hi] at this
    omega) (fun h=>by omega)
   exact ⟨1,l,true,_,g1,g2,by rw [g3]; simp,g4⟩
 | succ j ih=>
  intro k x M T c hkj hkr hM hT hT1 hM1 hE hz hL hB
  by_cases hl : lead Cs x.s m < 0
  ·obtain ⟨h1,h2⟩:=take_neg (B:=B) (n:=n) (Ct:=Ct) (k:=k) hl hE hz
   exact ⟨1,[],false,c,h1,okOps.nil,by rw [show gro [] = 1 from rfl,Nat.mul_one]; exact Nat.le_self_pow (by have:=Nat.pow_pos (n:=j + 1) (show 0 < 4 by omega); omega) _,h2⟩
  ·obtain ⟨c0,h1,h2,h3,h4⟩:=lead_nat hl
   obtain ⟨a1,a2,a3,a4⟩:=adv_spec (lead Cs x.s) (lead Cs x.s m) (rank - k) k
   obtain ⟨k',hk'⟩ : ∃k',adv (lead Cs x.s) (lead Cs x.s m) (rank - k) k = k':=⟨_,rfl⟩
   rw [hk'] at a1 a2 a3 a4
   have hlow : ∀i,i < k'->c i < c0:=fun i hi=>by
    rcases Nat.lt_or_ge i k with h | h
    ·have:=hL i h
     rw [hE.lead (k:=i) oM] at this
     omega
    ·have:=a3 i h hi
     rw [hE.lead (k:=i) oM] at this
     omega
   by_cases hcol : k' < rank/\c k' = c0
   ·obtain ⟨hc1,hc2⟩:=hcol
    have hp:=hE.pos k' hc1
    rw [hc2] at hp
    obtain ⟨p,hpp⟩ : ∃p : Nat,x.s k' c0 = (p : Int):=⟨(x.s k' c0).toNat,by omega⟩
    have hTp : p<=T:=by
     have:=hT k' oM c0 h2
     omega
    have hTa : (x.s m c0).natAbs<=T:=hT m hmn c0 h2
    have hq : (x.s m c0 / (p : Int)).natAbs<=T:=by
     refine Nat.le_trans ?_ hTa
     have : (0 : Int) < p:=by omega
     rcases Int.le_total 0 (x.s m c0) with h | h
     ·have g1:=Int.ediv_nonneg h (show (0 : Int)<=p by omega)
      have g2:=Int.ediv_le_self (p : Int) h
      omega
     ·have g1 : x.s m c0 / (p : Int)<=0:=Int.ediv_nonpos_of_nonpos_of_neg h this
      have g2 : x.s m c0<=x.s m c0 / (p : Int):=by
       rw [Int.le_ediv_iff_mul_le this]
       have : x.s m c0 * (p : Int)<=x.s m c0 * 1:=Int.mul_le_mul_of_nonpos_left h oM
       omega
      omega
    have hGb : (1 + (x.s m c0 / (p : Int)).natAbs) * (2 * p * p)<=(1 + T) * (2 * T * T):=Nat.mul_le_mul oM (Nat.mul_le_mul oM hTp)
    have h4b:=four_bound hT1
    have hpow : (2 * T) ^ 4<=(2 * T) ^ (4 ^ (j + 1)):=le_pow2 oM (Nat.le_trans (show 4<=4 ^ 1 by omega) (Nat.pow_le_pow_right oM oM))
    obtain ⟨f0,l1,e1,e2,e3,e4,e5,e6,e7,e8⟩:=euclid (B:=B) (Ct:=Ct) hc1 hrm hmn h2 p x M ((1 + T) * (2 * T * T)) hM hM1 oM hpp h3 (fun t ht=>hE.zero k' hc1 t oM) h4 (.inl hGb) (hB _ (Nat.le_trans h4b hpow))
    obtain ⟨y,hy⟩ : ∃y,opsB l1 x = y:=⟨_,rfl⟩
    have hys : y.s = opsF l1 x.s:=by rw [<-hy,opsB_s]
    rw [<-hys] at e4 e5 e6 e7 e8
    have hEy : Ech Cs rank c y.s:=by
     refine ⟨hE.lt,fun i hi=>?_,fun i hi t ht=>?_,hE.inc⟩
     ·by_cases e : i = k'
      ·rw [e,hc2]; exact e6
      ·rw [e4 i oM e]; exact hE.pos i hi
     ·by_cases e : i = k'
      ·rw [e] at ht ⊢; exact e5 t oM
      ·rw [e4 i oM e]; exact hE.zero i hi t ht
    have hg1:=gro_pos l1
    have hlm : lead Cs y.s m < 0 ∨ (c0 : Int) < lead Cs y.s m:=by
     rcases lead_spec Cs y.s m with ⟨g,-⟩ | ⟨c1,g1,g2,g3,-⟩
     ·left; omega
     ·right
      rcases Nat.lt_or_ge c0 c1 with h | h
      ·omega
      ·exact absurd (e8 c1 h) g3
    have hZ : 2 * (T * gro l1)<=(2 * T) ^ 4:=by
     refine Nat.le_trans ?_ h4b
     rw [<-Nat.mul_assoc]
     exact Nat.mul_le_mul_left _ e3
    have hexp : (2 * (T * gro l1)) ^ (4 ^ j)<=(2 * T) ^ (4 ^ (j + 1)):=by
     rw [Nat.pow_succ 4 j,Nat.mul_comm (4 ^ j),Nat.pow_mul (2 * T) 4]
     exact Nat.pow_le_pow_left hZ _
    obtain ⟨f1,l2,b,c',g1,g2,g3,g4⟩:=ih (k' + 1) y (M * gro l1) (T * gro l1) c oM oM (by rw [<-hy]; exact leB_ops e2 hM) (by rw [hys]; exact leM_opsF e2 hT) (Nat.mul_pos hT1 hg1) (Nat.mul_pos hM1 hg1) hEy
     (fun a h h' t ht=>by rw [e4 a oM oM]; exact hz a h h' t ht)
     (fun i hi=>by
      rcases hlm with h | h
      ·exact .inl h
      ·right
       rw [hEy.lead oM]
       by_cases e : i = k'
       ·rw [e,hc2]; exact h
       ·have:=hlow i oM
        omega)
     (fun G hG=>by
      rw [Nat.mul_assoc]
      refine hB _ (Nat.le_trans ?_ (Nat.le_trans hG hexp))
      rw [Nat.mul_assoc 2 (T * gro l1),Nat.mul_assoc 2 T,Nat.mul_assoc T]
      exact Nat.le_refl _)
    have hsk : takeGo B n Cs Ct m rank f1 k' y = takeGo B n Cs Ct m rank f1 (k' + 1) y:=takeGo_skip hc1 (hlm.imp id fun h=>by rw [hEy.lead hc1,hc2]; exact h)
    have hk0 : takeGo B n Cs Ct m rank (f1 + f0) k x = takeGo B n Cs Ct m rank (f1 + f0) k' x:=by
     clear hB ih e1 hexp g1 hsk
     obtain ⟨d,hd⟩ : ∃d,k' = k + d:=⟨k' - k,by omega⟩
     have : ∀d',d'<=d->takeGo B n Cs Ct m rank (f1 + f0) k x = takeGo B n Cs Ct m rank (f1 + f0) (k + d') x:=by
      intro d'
      induction d' with
      | zero=>intro _; rfl
      | succ d' ihd=>
       intro hd'
       rw [ihd oM]
       exact takeGo_skip oM (.inr (a3 _ oM oM))
     rw [hd]
     exact this d (Nat.le_refl _)
    refine ⟨f1 + f0,l1 ++ l2,b,c',?_,e2.app g2,?_,?_⟩
    ·rw [hk0,e1,hy,hsk,g1,opsB_app,hy]
    ·rw [gro_app]
     refine Nat.le_trans ?_ (Nat.le_trans g3 hexp)
     rw [Nat.mul_assoc 2 (T * gro l1),Nat.mul_assoc 2 T,Nat.mul_assoc T]
     exact Nat.le_refl _
    ·rw [opsF_app,<-hys]
     obtain ⟨t1,t2,t3⟩:=g4
     exact ⟨t1,t2,fun a h t=>by rw [t3 a h,e4 a oM oM]⟩
   ·obtain ⟨l,g1,g2,g3,g4⟩:=take_put (B:=B) (n:=n) (Ct:=Ct) (k:=k) (k':=k') hrm hmn h1 h2 h3 h4 hE hz hk' oM hlow (fun h=>by
     have h5:=a4 oM
     rw [hE.lead h,h1] at h5
     have : c k' ≠ c0:=fun e=>hcol ⟨h,e⟩
     omega)
    exact ⟨1,l,true,_,g1,g2,by rw [g3,Nat.mul_one]; exact Nat.le_self_pow (by have:=Nat.pow_pos (n:=j + 1) (show 0 < 4 by omega); omega) _,g4⟩
def RedOn (P : Nat->Nat->Prop) (r : Nat) (c : Nat->Nat) (F : Nat->Nat->Int) : Prop:=∀i j,i < j->j < r->P i j->0<=F i (c j)/\F i (c j) < F j (c j)
theorem redJ_ends {B n Cs Ct rank i : Nat} {c : Nat->Nat} {cols : Nat->Int} (hrn : rank<=n) (hi : i < rank) (hcols : ∀k,k < rank->cols k = (c k : Int)) : ∀(m j : Nat) (x : Bst) (M T : Nat),j + m = rank->i < j->leB M n Cs Ct x->leM T n Cs x.s->1<=T->1<=M->Ech Cs rank c x.s ->
  (∀j',i < j'->j' < j->0<=x.s i (c j')/\x.s i (c j') < x.s j' (c j'))->(∀G,2 * T * G<=(2 * T) ^ (2 ^ m)->M * G < B) ->
  ∃l,redJ B n Cs Ct cols i m j x = some (opsB l x)/\okOps n l/\2 * T * gro l<=(2 * T) ^ (2 ^ m)/\Ech Cs rank c (opsF l x.s)/\(∀a,a ≠ i->∀t,opsF l x.s a t = x.s a t) ∧
   (∀j',i < j'->j' < rank->0<=opsF l x.s i (c j')/\opsF l x.s i (c j') < opsF l x.s j' (c j')):=by
 intro m
 induction m with
 | zero=>
  intro j x M T hj hij hM hT hT1 hM1 hE hR hB
  exact ⟨[],rfl,okOps.nil,by simp [gro],hE,fun a _ t=>rfl,fun j' h1 h2=>hR j' h1 oM⟩
 | succ m ih=>
  intro j x M T hj hij hM hT hT1 hM1 hE hR hB
  have hjr : j < rank:=by omega
  have hcj : (cols j).toNat = c j:=by rw [hcols j hjr]; rfl
  have hp:=hE.pos j hjr
  have hZ1 : 1<=2 * T:=by omega
  have hexp0 : (2 * T) ^ (2 ^ m)<=(2 * T) ^ (2 ^ (m + 1)):=le_pow2 hZ1 (Nat.pow_le_pow_right oM oM)
  have hskip : (0<=x.s i (c j)/\x.s i (c j) < x.s j (c j))->∃l,redJ B n Cs Ct cols i m (j + 1) x = some (opsB l x)/\okOps n l/\2 * T * gro l<=(2 * T) ^ (2 ^ (m + 1))/\Ech Cs rank c (opsF l x.s)/\(∀a,a ≠ i->∀t,opsF l x.s a t = x.s a t) ∧
   (∀j',i < j'->j' < rank->0<=opsF l x.s i (c j')/\opsF l x.s i (c j') < opsF l x.s j' (c j')):=fun hin=>by
   obtain ⟨l,g1,g2,g3,g4⟩:=ih (j + 1) x M T oM oM hM hT hT1 hM1 hE (fun j' h1 h2=>by
    by_cases e : j' = j
    ·rw [e]; exact hin
    ·exact hR j' h1 oM) (fun G hG=>hB G (Nat.le_trans hG hexp0))
   exact ⟨l,g1,g2,Nat.le_trans g3 hexp0,g4⟩
  unfold redJ
  rw [if_neg (by rw [hcols j hjr]; omega),hcj]
  by_cases h0 : x.s i (c j) = 0
  ·rw [if_pos h0]
   exact hskip oM
  ·rw [if_neg h0,if_neg oM]
   by_cases hq0 : x.s i (c j) / x.s j (c j) = 0
   ·rw [if_pos hq0]
    refine hskip ?_
    have h1:=Int.mul_ediv_add_emod (x.s i (c j)) (x.s j (c j))
    have h2:=Int.emod_nonneg (x.s i (c j)) (b:=x.s j (c j)) oM
    have h3:=Int.emod_lt_of_pos (x.s i (c j)) hp
    rw [hq0,Int.mul_zero] at h1
    omega
   ·rw [if_neg hq0]
    obtain ⟨q,hq⟩ : ∃q,x.s i (c j) / x.s j (c j) = q:=⟨_,rfl⟩
    rw [hq]
    have hqT : q.natAbs<=T:=by
     refine Nat.le_trans ?_ (hT i oM (c j) (hE.lt j hjr))
     rw [<-hq]
     rcases Int.le_total 0 (x.s i (c j)) with h | h
     ·have g1:=Int.ediv_nonneg h (Int.le_of_lt hp)
      have g2:=Int.ediv_le_self (x.s j (c j)) h
      omega
     ·have g1 : x.s i (c j) / x.s j (c j)<=0:=Int.ediv_nonpos_of_nonpos_of_neg h hp
      have g2 : x.s i (c j)<=x.s i (c j) / x.s j (c j):=by
       rw [Int.le_ediv_iff_mul_le hp]
       have : x.s i (c j) * x.s j (c j)<=x.s i (c j) * 1:=Int.mul_le_mul_of_nonpos_left h oM
       omega
      omega
    have hb2 : 2 * T * (1 + q.natAbs)<=(2 * T) ^ 2:=by
     rw [Nat.pow_two]
     exact Nat.mul_le_mul_left _ oM
    have hexp2 : (2 * T) ^ 2<=(2 * T) ^ (2 ^ (m + 1)):=le_pow2 hZ1 (Nat.le_trans (show 2<=2 ^ 1 by omega) (Nat.pow_le_pow_right oM oM))
    have hok : okAdd B n Cs Ct x i j (-q):=okAdd_of hM oM oM oM hM1 (by rw [Int.natAbs_neg]; exact hB _ (Nat.le_trans hb2 hexp2))
    rw [if_pos hok]
    have hoa : (Op.add i j (-q)).ok n:=⟨by omega,by omega,by omega⟩
    have hga : gro [Op.add i j (-q)] = 1 + q.natAbs:=by simp [gro,Op.g]
    have hst : ∀a t,(opsB [.add i j (-q)] x).s a t = if a = i then x.s i t + -q * x.s j t else x.s a t:=fun a t=>rfl
    have hdm:=Int.mul_ediv_add_emod (x.s i (c j)) (x.s j (c j))
    have hm0:=Int.emod_nonneg (x.s i (c j)) (b:=x.s j (c j)) oM
    have hml:=Int.emod_lt_of_pos (x.s i (c j)) hp
    rw [hq] at hdm
    have hEy : Ech Cs rank c (opsB [.add i j (-q)] x).s:=by
     have hsm : ∀t,t<=c i->x.s i t + -q * x.s j t = x.s i t:=fun t ht=>by
      rw [hE.zero j hjr t (by have:=hE.inc i j hij hjr; omega)]; omega
     refine ⟨hE.lt,fun a ha=>?_,fun a ha t ht=>?_,hE.inc⟩
     ·rw [hst]
      by_cases e : a = i
      ·rw [if_pos e,e,hsm _ (Nat.le_refl _)]; exact hE.pos i oM
      ·rw [if_neg e]; exact hE.pos a ha
     ·rw [hst]
      by_cases e : a = i
      ·rw [e] at ht
       rw [if_pos e,hsm t oM]; exact hE.zero i oM t ht
      ·rw [if_neg e]; exact hE.zero a ha t ht
    have hexp : (2 * (T * (1 + q.natAbs))) ^ (2 ^ m)<=(2 * T) ^ (2 ^ (m + 1)):=by
     rw [Nat.pow_succ 2 m,Nat.mul_comm (2 ^ m),Nat.pow_mul (2 * T) 2,<-Nat.mul_assoc]
     exact Nat.pow_le_pow_left hb2 _
    obtain ⟨l,g1,g2,g3,g4,g5,g6⟩:=ih (j + 1) (opsB [.add i j (-q)] x) (M * (1 + q.natAbs)) (T * (1 + q.natAbs)) oM oM
     (by have:=leB_ops (okOps.cons hoa okOps.nil) hM; rwa [hga] at this)
     (by have:=leM_opsF (okOps.cons hoa okOps.nil) hT; rwa [hga] at this) (Nat.mul_pos hT1 oM) (Nat.mul_pos hM1 oM) hEy
     (fun j' h1 h2=>by
      rw [hst,hst,if_pos rfl,if_neg oM]
      by_cases e : j' = j
      ·rw [e,Int.neg_mul,Int.mul_comm q]
       constructor <;> omega
      ·rw [hE.zero j hjr (c j') (hE.inc j' j oM hjr),Int.mul_zero,Int.add_zero]
       exact hR j' h1 oM)
     (fun G hG=>by
      rw [Nat.mul_assoc]
      refine hB _ (Nat.le_trans ?_ (Nat.le_trans hG hexp))
      rw [Nat.mul_assoc 2 (T * _),Nat.mul_assoc 2 T,Nat.mul_assoc T]
      exact Nat.le_refl _)
    have ef : ∀l,opsF l (opsB [.add i j (-q)] x).s = opsF ([.add i j (-q)] ++ l) x.s:=fun l=>by rw [opsF_app]; rfl
    rw [ef] at g4 g6
    refine ⟨[.add i j (-q)] ++ l,?_,(okOps.cons hoa okOps.nil).app g2,?_,g4,fun a ha t=>?_,g6⟩
    ·rw [opsB_app]; exact g1
    ·rw [gro_app,hga]
     refine Nat.le_trans ?_ (Nat.le_trans g3 hexp)
     rw [Nat.mul_assoc 2 (T * _),Nat.mul_assoc 2 T,Nat.mul_assoc T]
     exact Nat.le_refl _
    ·rw [<-ef,g5 a ha t,hst,if_neg ha]
def redE (rank : Nat) : Nat->Nat
 | 0=>0
 | i + 1=>(rank - (i + 1)) + redE rank i
theorem redI_ends {B n Cs Ct rank : Nat} {c : Nat->Nat} {cols : Nat->Int} (hrn : rank<=n) (hcols : ∀k,k < rank->cols k = (c k : Int)) : ∀(i : Nat) (x : Bst) (M T : Nat),i<=rank->leB M n Cs Ct x->leM T n Cs x.s->1<=T->1<=M->Ech Cs rank c x.s ->
  RedOn (fun a _=>i<=a) rank c x.s->(∀G,2 * T * G<=(2 * T) ^ (2 ^ redE rank i)->M * G < B) ->
  ∃l,redI B n Cs Ct cols rank i x = some (opsB l x)/\okOps n l/\2 * T * gro l<=(2 * T) ^ (2 ^ redE rank i)/\Ech Cs rank c (opsF l x.s)/\RedOn (fun _ _=>True) rank c (opsF l x.s)/\(∀a,rank<=a->∀t,opsF l x.s a t = x.s a t):=by
 intro i
 induction i with
 | zero=>
  intro x M T hi hM hT hT1 hM1 hE hR hB
  exact ⟨[],rfl,okOps.nil,by simp [gro,redE],hE,fun a b h1 h2 _=>hR a b h1 h2 (Nat.zero_le _),fun a _ t=>rfl⟩
 | succ i ih=>
  intro x M T hi hM hT hT1 hM1 hE hR hB
  have hZ1 : 1<=2 * T:=by omega
  have h2p : ∀e,1<=2 ^ e:=fun e=>Nat.pow_pos oM
  have hsum : 2 ^ redE rank (i + 1) = 2 ^ (rank - (i + 1)) * 2 ^ redE rank i:=by
   show 2 ^ ((rank - (i + 1)) + redE rank i) = _
   rw [Nat.pow_add]
  have hexp1 : (2 * T) ^ (2 ^ (rank - (i + 1)))<=(2 * T) ^ (2 ^ redE rank (i + 1)):=le_pow2 hZ1 (by rw [hsum]; exact Nat.le_mul_of_pos_right _ (h2p _))
  obtain ⟨l1,g1,g2,g3,g4,g5,g6⟩:=redJ_ends (B:=B) (Ct:=Ct) (i:=i) hrn oM hcols (rank - (i + 1)) (i + 1) x M T oM oM hM hT hT1 hM1 hE (fun j' h1 h2=>by omega) (fun G hG=>hB G (Nat.le_trans hG hexp1))
  have hg:=gro_pos l1
  have hexp : (2 * (T * gro l1)) ^ (2 ^ redE rank i)<=(2 * T) ^ (2 ^ redE rank (i + 1)):=by
   rw [hsum,Nat.pow_mul (2 * T),<-Nat.mul_assoc]
   exact Nat.pow_le_pow_left g3 _
  obtain ⟨l2,k1,k2,k3,k4,k5,k6⟩:=ih (opsB l1 x) (M * gro l1) (T * gro l1) oM (leB_ops g2 hM) (by rw [opsB_s]; exact leM_opsF g2 hT) (Nat.mul_pos hT1 hg) (Nat.mul_pos hM1 hg) (by rw [opsB_s]; exact g4)
   (fun a b h1 h2 h3=>by
    rw [opsB_s]
    by_cases e : a = i
    ·rw [e]; exact g6 b oM h2
    ·rw [g5 a e,g5 b oM]
     exact hR a b h1 h2 oM)
   (fun G hG=>by
    rw [Nat.mul_assoc]
    refine hB _ (Nat.le_trans ?_ (Nat.le_trans hG hexp))
    rw [Nat.mul_assoc 2 (T * _),Nat.mul_assoc 2 T,Nat.mul_assoc T]
    exact Nat.le_refl _)
  have ef : opsF l2 (opsB l1 x).s = opsF (l1 ++ l2) x.s:=by rw [opsF_app,opsB_s]
  rw [ef] at k4 k5 k6
  refine ⟨l1 ++ l2,?_,g2.app k2,?_,k4,k5,fun a ha t=>?_⟩
  ·unfold redI
   rw [g1,Option.bind_some,k1,opsB_app]
  ·rw [gro_app]
   refine Nat.le_trans ?_ (Nat.le_trans k3 hexp)
   rw [Nat.mul_assoc 2 (T * _),Nat.mul_assoc 2 T,Nat.mul_assoc T]
   exact Nat.le_refl _
  ·rw [k6 a ha t,opsB_s,g5 a oM]
theorem redE_le : ∀m,m < 4->∀r,r<=m + 1->redE r r<=m * (m + 1) / 2:=by decide
structure Hnf (C n r : Nat) (c : Nat->Nat) (F : Nat->Nat->Int) : Prop where
 le : r<=n
 ech : Ech C r c F
 red : RedOn (fun _ _=>True) r c F
 zero : ∀a,r<=a->a < n->∀t,t < C->F a t = 0
def ecE : Nat->Nat->Nat
 | 0,_=>1
 | l + 1,m=>4 ^ m * 2 ^ (m * (m + 1) / 2) * ecE l (m + 1)
theorem ecE_pos (l : Nat) : ∀m,1<=ecE l m:=by
 induction l with
 | zero=>intro m; exact Nat.le_refl _
 | succ l ih=>intro m; exact Nat.mul_pos (Nat.mul_pos (Nat.pow_pos oM) (Nat.pow_pos oM)) (ih _)
theorem echGo_ends {B n Cs Ct : Nat} (hn : n<=4) : ∀(l m rank : Nat) (x : Bst) (M T : Nat) (c : Nat->Nat),m + l = n->rank<=m->leB M n Cs Ct x->leM T n Cs x.s->1<=T->1<=M->Ech Cs rank c x.s->RedOn (fun _ _=>True) rank c x.s ->
  (∀a,rank<=a->a < m->∀t,t < Cs->x.s a t = 0)->(∀G,2 * T * G<=(2 * T) ^ ecE l m->M * G < B) ->
  ∃f ops r c',(∀g,f<=g->echGo B n Cs Ct g l m rank x = some (opsB ops x))/\okOps n ops/\2 * T * gro ops<=(2 * T) ^ ecE l m/\Hnf Cs n r c' (opsF ops x.s):=by
 intro l
 induction l with
 | zero=>
  intro m rank x M T c hml hrm hM hT hT1 hM1 hE hR hz hB
  obtain rfl : m = n:=by omega
  exact ⟨0,[],rank,c,fun g _=>rfl,okOps.nil,by simp [gro,ecE],hrm,hE,hR,hz⟩
 | succ l ih=>
  intro m rank x M T c hml hrm hM hT hT1 hM1 hE hR hz hB
  have hZ1 : 1<=2 * T:=by omega
  have p4 : ∀e,1<=4 ^ e:=fun e=>Nat.pow_pos oM
  have p2 : ∀e,1<=2 ^ e:=fun e=>Nat.pow_pos oM
  have hE1 : 4 ^ rank<=ecE (l + 1) m:=by
   unfold ecE
   exact Nat.le_trans (Nat.pow_le_pow_right oM hrm) (Nat.le_trans (Nat.le_mul_of_pos_right _ (p2 _)) (Nat.le_mul_of_pos_right _ (ecE_pos _ _)))
  obtain ⟨f1,l1,b,c1,g1,g2,g3,g4,g5,g6⟩:=take_ends (B:=B) (Ct:=Ct) hrm (show m < n by omega) rank 0 x M T c oM oM hM hT hT1 hM1 hE hz (fun i hi=>by omega) (fun G hG=>hB G (Nat.le_trans hG (le_pow2 hZ1 hE1)))
  obtain ⟨r1,hr1⟩ : ∃r1,(if b then rank + 1 else rank) = r1:=⟨_,rfl⟩
  rw [hr1] at g4 g5
  have hr1m : r1<=m + 1:=by rw [<-hr1]; split <;> omega
  have hg1:=gro_pos l1
  have g3' : 2 * (T * gro l1)<=(2 * T) ^ (4 ^ m):=by
   rw [<-Nat.mul_assoc]
   exact Nat.le_trans g3 (le_pow2 hZ1 (Nat.pow_le_pow_right oM hrm))
  have hre:=redE_le m oM r1 hr1m
  have hexpR : (2 * (T * gro l1)) ^ (2 ^ redE r1 r1)<=(2 * T) ^ (4 ^ m * 2 ^ (m * (m + 1) / 2)):=by
   rw [Nat.pow_mul]
   exact Nat.le_trans (Nat.pow_le_pow_left g3' _) (le_pow2 (Nat.pow_pos oM) (Nat.pow_le_pow_right oM hre))
  have hE2 : (2 * T) ^ (4 ^ m * 2 ^ (m * (m + 1) / 2))<=(2 * T) ^ ecE (l + 1) m:=le_pow2 hZ1 (by unfold ecE; exact Nat.le_mul_of_pos_right _ (ecE_pos _ _))
  have hassoc : ∀G,2 * T * (gro l1 * G) = 2 * (T * gro l1) * G:=fun G=>by
   rw [Nat.mul_assoc 2 (T * _),Nat.mul_assoc 2 T,Nat.mul_assoc T]
  have hs1 : (opsB l1 x).s = opsF l1 x.s:=opsB_s _ _
  obtain ⟨l2,k1,k2,k3,k4,k5,k6⟩:=redI_ends (B:=B) (Ct:=Ct) (rank:=r1) (cols:=lead Cs (opsB l1 x).s) (c:=c1) (show r1<=n by omega) (fun k hk=>by rw [hs1]; exact g4.lead hk) r1 (opsB l1 x) (M * gro l1) (T * gro l1) (Nat.le_refl _) (leB_ops g2 hM) (by rw [hs1]; exact leM_opsF g2 hT) (Nat.mul_pos hT1 hg1) (Nat.mul_pos hM1 hg1) (by rw [hs1]; exact g4)
   (fun a b h1 h2 h3=>by omega) (fun G hG=>by
    rw [Nat.mul_assoc]
    refine hB _ ?_
    rw [hassoc]
    exact Nat.le_trans hG (Nat.le_trans hexpR hE2))
  have hg2:=gro_pos l2
  have ef : opsF l2 (opsB l1 x).s = opsF (l1 ++ l2) x.s:=by rw [opsF_app,opsB_s]
  rw [ef] at k4 k5 k6
  have hgg : gro (l1 ++ l2) = gro l1 * gro l2:=gro_app _ _
  have hok12:=g2.app k2
  have hT2 : 2 * (T * gro (l1 ++ l2))<=(2 * T) ^ (4 ^ m * 2 ^ (m * (m + 1) / 2)):=by
   rw [hgg,<-Nat.mul_assoc,hassoc]
   exact Nat.le_trans k3 hexpR
  have hexpL : (2 * (T * gro (l1 ++ l2))) ^ ecE l (m + 1)<=(2 * T) ^ ecE (l + 1) m:=by
   show _<=(2 * T) ^ (4 ^ m * 2 ^ (m * (m + 1) / 2) * ecE l (m + 1))
   rw [Nat.pow_mul]
   exact Nat.pow_le_pow_left hT2 _
  have hassoc2 : ∀G,2 * T * (gro (l1 ++ l2) * G) = 2 * (T * gro (l1 ++ l2)) * G:=fun G=>by
   rw [Nat.mul_assoc 2 (T * _),Nat.mul_assoc 2 T,Nat.mul_assoc T]
  have hs2 : (opsB (l1 ++ l2) x).s = opsF (l1 ++ l2) x.s:=opsB_s _ _
  obtain ⟨f3,l3,r,c',q1,q2,q3,q4⟩:=ih (m + 1) r1 (opsB (l1 ++ l2) x) (M * gro (l1 ++ l2)) (T * gro (l1 ++ l2)) c1 oM hr1m (leB_ops hok12 hM) (by rw [hs2]; exact leM_opsF hok12 hT) (Nat.mul_pos hT1 (gro_pos _)) (Nat.mul_pos hM1 (gro_pos _)) (by rw [hs2]; exact k4) (by rw [hs2]; exact k5)
   (fun a h1 h2 t ht=>by rw [hs2,k6 a h1 t,hs1]; exact g5 a h1 oM t ht)
   (fun G hG=>by
    rw [Nat.mul_assoc]
    refine hB _ ?_
    rw [hassoc2]
    exact Nat.le_trans hG hexpL)
  refine ⟨max f1 f3,(l1 ++ l2) ++ l3,r,c',fun g hg=>?_,hok12.app q2,?_,?_⟩
  ·unfold echGo
   rw [takeGo_le g1 (show f1<=g by omega),Option.bind_some]
   dsimp only
   rw [hr1]
   unfold reduceB
   rw [k1,Option.bind_some,<-opsB_app,q1 g oM,opsB_app (l1 ++ l2) l3]
  ·rw [gro_app,hassoc2]
   exact Nat.le_trans q3 hexpL
  ·rw [opsF_app,<-hs2]; exact q4
def KE : Nat:=4194304
theorem ecE_KE {n : Nat} (hn : n<=4) : ecE n 0<=KE:=by
 have : ∀n,n<=4->ecE n 0<=4194304:=by decide
 exact this n hn
theorem echB_ends {B n Cs Ct : Nat} (hn : n<=4) (x : Bst) (M T : Nat) (hM : leB M n Cs Ct x) (hT : leM T n Cs x.s) (hT1 : 1<=T) (hM1 : 1<=M) (hB : ∀G,2 * T * G<=(2 * T) ^ KE->M * G < B) :
  ∃f ops r c',(∀g,f<=g->echB B n Cs Ct g x = some (opsB ops x))/\okOps n ops/\2 * T * gro ops<=(2 * T) ^ KE/\Hnf Cs n r c' (opsF ops x.s):=by
 have hp : (2 * T) ^ ecE n 0<=(2 * T) ^ KE:=le_pow2 oM (ecE_KE hn)
 obtain ⟨f,ops,r,c',h1,h2,h3,h4⟩:=echGo_ends (B:=B) (Ct:=Ct) hn n 0 0 x M T (fun _=>0) oM oM hM hT hT1 hM1 ⟨fun k hk=>by omega,fun k hk=>by omega,fun k hk=>by omega,fun k l h1 h2=>by omega⟩ (fun i j h1 h2=>by omega) (fun a h1 h2=>by omega) (fun G hG=>hB G (Nat.le_trans hG hp))
 exact ⟨f,ops,r,c',h1,h2,Nat.le_trans h3 hp,h4⟩
end Go.Proofs.YtnocgagoaldfnaaGreat
