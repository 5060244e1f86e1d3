/- smith: band.twist. matrix.New. -/
import Derived.Defers
import Derived.Recover
import Derived.Test.YtnocgagoaldfnaaGreatD30
set_option linter.unusedVariables false
set_option linter.unusedSimpArgs false
set_option linter.unusedSectionVars false
namespace Go.Proofs.YtnocgagoaldfnaaGreat
open Go.RowKit
theorem RowsO.rows2 {w w' : World} {base : Nat} {A : Value} {C : Nat} {bs : List Nat} {M : List (List Int)} {i j bi bj : Nat} {ri rj : List Int} (h : RowsO w base A C bs M) (hbi : bs[i]? = some bi) (hbj : bs[j]? = some bj) (hij : i ≠ j) (ho : Only [bi,bj] w w')
  (hri : RowAt w' bi ri) (hrj : RowAt w' bj rj) (hli : ri.length = C) (hlj : rj.length = C) : RowsO w' base A C bs ((M.set i ri).set j rj):=by
 have hib:=(List.getElem?_eq_some_iff.1 hbi).1
 have hjb:=(List.getElem?_eq_some_iff.1 hbj).1
 have hiM : i < M.length:=by rw [h.len]; exact hib
 have hjM : j < M.length:=by rw [h.len]; exact hjb
 obtain ⟨r1,r2,r3⟩:=h.row i bi M[i] hbi (List.getElem?_eq_getElem hiM)
 obtain ⟨q1,q2,q3⟩:=h.row j bj M[j] hbj (List.getElem?_eq_getElem hjM)
 refine ⟨⟨h.own.1,?_⟩,by simp [h.len],?_,h.nodup,h.cb⟩
 ·rcases h.own.2 with h1 | ⟨g,cap,cur,e1,e2,e3,e4⟩
  ·exact .inl h1
  ·refine .inr ⟨g,cap,cur,e1,e2,?_,e4⟩
   refine (ho.old g (Array.getElem?_eq_some_iff.1 e3).1 ?_).trans e3
   intro hg
   have f1:=own_ne h.own r3
   have f2:=own_ne h.own q3
   rw [e1] at f1 f2
   simp at hg
   rcases hg with rfl | rfl
   ·exact f1 rfl
   ·exact f2 rfl
 ·intro k b' r' hk hr'
  by_cases ej : k = j
  ·subst ej
   rw [hbj] at hk
   injection hk with hk
   subst hk
   rw [List.getElem?_set_self (by simpa using hjM)] at hr'
   injection hr' with hr'
   subst hr'
   exact ⟨q1,hlj,hrj⟩
  ·rw [List.getElem?_set_ne (Ne.symm ej)] at hr'
   by_cases e : k = i
   ·subst e
    rw [hbi] at hk
    injection hk with hk
    subst hk
    rw [List.getElem?_set_self hiM] at hr'
    injection hr' with hr'
    subst hr'
    exact ⟨r1,hli,hri⟩
   ·rw [List.getElem?_set_ne (Ne.symm e)] at hr'
    obtain ⟨f1,f2,f3⟩:=h.row k b' r' hk hr'
    have hkb:=(List.getElem?_eq_some_iff.1 hk).1
    have hne : ∀{t bt : Nat},bs[t]? = some bt->k ≠ t->b' ≠ bt:=by
     intro t bt ht hkt hh
     subst hh
     have h1:=(List.getElem?_eq_some_iff.1 hk).2
     have h2:=(List.getElem?_eq_some_iff.1 ht).2
     exact hkt ((List.getElem_inj h.nodup).1 (h1.trans h2.symm))
    exact ⟨f1,f2,f3.only ho (by simp; exact ⟨hne hbi e,hne hbj ej⟩)⟩
theorem setRow_blend {R C : Nat} {F : Nat->Nat->Int} {i j : Nat} {m0 m1 m2 m3 : Int} (hij : i ≠ j) :
  ((genM R C F).set i (genV C (fun t=>m0 * F i t + m1 * F j t))).set j (genV C (fun t=>m2 * F i t + m3 * F j t)) = genM R C (blendF F i j m0 m1 m2 m3):=by
 apply List.ext_getElem
 ·simp [genM]
 ·intro a h1 h2
  by_cases ej : a = j
  ·subst ej
   rw [List.getElem_set_self]
   have : ¬ a = i:=fun h=>hij h.symm
   simp [genM,genV,blendF,this]
  ·have e3 : j ≠ a:=fun h=>ej h.symm
   rw [List.getElem_set_ne e3]
   by_cases e : a = i
   ·subst e
    rw [List.getElem_set_self]
    simp [genM,genV,blendF]
   ·have e4 : i ≠ a:=fun h=>e h.symm
    rw [List.getElem_set_ne e4]
    simp [genM,blendF,e,ej]
theorem blendRows {w : World} {A : Value} {R C : Nat} {bs : List Nat} {F : Nat->Nat->Int} (h : Wri w A R C bs F) {i j bi bj : Nat} (hi : i < R) (hj : j < R) (hij : i ≠ j) (hbi : bs[i]? = some bi) (hbj : bs[j]? = some bj) {mv : Value} {m0 m1 m2 m3 : Int} (hm : M4V w mv m0 m1 m2 m3)
  (hC : C<=1000000) (hS : BlSm C (F i) (F j) m0 m1 m2 m3) (hms : Sm m0/\Sm m1/\Sm m2/\Sm m3) :
  Calls Tryz.prog 138 #[.slice (some ⟨bi,0,none⟩) C C,.slice (some ⟨bj,0,none⟩) C C,mv] w fun e w'=>(∃u,e = .returned u)/\Only [bi,bj] w w'/\Wri w' A R C bs (blendF F i j m0 m1 m2 m3):=by
 have hne : bi ≠ bj:=by
  intro hh
  subst hh
  obtain ⟨f1,f2⟩:=List.getElem?_eq_some_iff.1 hbi
  obtain ⟨g1,g2⟩:=List.getElem?_eq_some_iff.1 hbj
  exact hij ((List.getElem_inj (RowsO.nodup h)).1 (f2.trans g2.symm))
 refine (blend_any bi bj C C C (F i) (F j) mv m0 m1 m2 m3 w (h.rowAt hi hbi) (h.rowAt hj hbj) hne hm hC (Nat.le_refl _) oM (Nat.le_refl _) oM hS hms).mono ?_
 rintro e w' ⟨hu,ho,hr1,hr2⟩
 refine ⟨hu,ho,?_⟩
 unfold Wri
 rw [<-setRow_blend hij]
 exact RowsO.rows2 h hbi hbj hij ho hr1 hr2 (genV_length _ _) (genV_length _ _)
theorem Wri.only2 {w w' : World} {A : Value} {R C : Nat} {bs : List Nat} {F : Nat->Nat->Int} {b c : Nat} {r q : List Int} (h : Wri w A R C bs F) (ho : Only [b,c] w w') (hn : b ∉ bs) (hn2 : c ∉ bs) (hr : RowAt w b r) (hq : RowAt w c q) : Wri w' A R C bs F:=
 RowsO.only h ho (fun x hx=>by
  intro hh
  simp at hh
  rcases hh with rfl | rfl
  ·exact hn hx
  ·exact hn2 hx) (fun g hg=>by
  simp at hg
  rcases hg with rfl | rfl
  ·exact ⟨_,hr⟩
  ·exact ⟨_,hq⟩)
def M2V (m0 m1 : Int) : World->Value->Prop:=fun w v=>∃s0 a0 l0 c0 s1 a1 l1 c1,v = .agg #[.bool s0,.slice a0 l0 c0,.bool s1,.slice a1 l1 c1]/\IntV w (.agg #[.bool s0,.slice a0 l0 c0]) m0/\IntV w (.agg #[.bool s1,.slice a1 l1 c1]) m1
theorem lasts_m2 (a b : Int) : Lasts (M2V a b):=by
 rintro w w' v e ⟨s0,a0,l0,c0,s1,a1,l1,c1,rfl,h0,h1⟩
 exact ⟨s0,a0,l0,c0,s1,a1,l1,c1,rfl,h0.ext e,h1.ext e⟩
theorem lasts_m4 (a b c d : Int) : Lasts (fun w v=>M4V w v a b c d):=fun _ _ _ e h=>h.ext e
set_option maxHeartbeats 4000000 in
set_option maxRecDepth 20000 in
theorem twist_any (as_ : Option Addr) (al ac : Nat) (At Ai mv : Value) (n C i j : Nat) (bst bsi : List Nat) (FT FI : Nat->Nat->Int) (m0 m1 m2 m3 : Int) (w : World) (ht : Wri w At n C bst FT) (hi_ : Wri w Ai n C bsi FI) (fti : Far bst bsi) (hm : M4V w mv m0 m1 m2 m3)
  (hi : i < n) (hj : j < n) (hij : i ≠ j) (hn : n<=1000000) (hC : C<=1000000) (hT : BlSm C (FT i) (FT j) m0 m1 m2 m3) (hI : BlSm C (FI i) (FI j) m3 (-m2) (-m1) m0) (hms : Sm m0/\Sm m1/\Sm m2/\Sm m3) :
  Calls Tryz.prog 122 #[.agg #[.slice as_ al ac,At,Ai],.int .i64 i,.int .i64 j,mv] w fun e w'=>(∃u,e = .returned u)/\OnlyZ (fun b=>b ∈ bst ∨ b ∈ bsi) w w' ∧
   Wri w' At n C bst (blendF FT i j m0 m1 m2 m3)/\Wri w' Ai n C bsi (blendF FI i j m3 (-m2) (-m1) m0):=by
 obtain ⟨uo,tn,tc,rfl,t1,t2,t3,-⟩:=id (RowsO.rows ht)
 obtain ⟨io,in_,ic,rfl,i1,i2,i3,-⟩:=id (RowsO.rows hi_)
 have HT:=HidS.mk hT
 have HI:=HidS.mk hI
 have HK:=HidS.mk hms
 have hms' : Sm m3/\Sm (-m2)/\Sm (-m1)/\Sm m0:=⟨hms.2.2.2,hms.2.2.1.mono (by rw [Int.natAbs_neg]; exact Nat.le_refl _),hms.2.1.mono (by rw [Int.natAbs_neg]; exact Nat.le_refl _),hms.1⟩
 have HK2:=HidS.mk hms'
 have HM:=HidS.mk hm
 obtain ⟨s0,a0,l0,c0,s1,a1,l1,c1,s2,a2,l2,c2,s3,a3,l3,c3,rfl,j0,j1,j2,j3⟩:=id hm
 clear hT hI hms hm hms'
 have e2 : n = tn:=by rw [<-t1]; simp [genM]
 have e3 : n = in_:=by rw [<-i1]; simp [genM]
 subst e2
 subst e3
 clear t1 i1
 obtain ⟨gt,bi,rfl,hgt,hbi,hbi2,-,-⟩:=RowsO.at_ ht (i:=i) (by rw [ht.len]; exact hi)
 obtain ⟨bj,hbj,-⟩:=RowsO.rowAt ht hj
 obtain ⟨gi,ci,rfl,hgi,hci,hci2,-,-⟩:=RowsO.at_ hi_ (i:=i) (by rw [hi_.len]; exact hi)
 obtain ⟨cj,hcj,-⟩:=RowsO.rowAt hi_ hj
 have lbi:=(ht.rowAt hi hbi).lt
 have lbj:=(ht.rowAt hj hbj).lt
 go_enter Tryz.func122,Tryz.ntmps122
 go_upto_region 1 with (fail)
 refine wp_world ?_
 intro W0 hW0
 obtain ⟨hB0,bx,bm,hs0⟩:=world2 hW0
 have ht:=ht.below hB0
 have hi_:=hi_.below hB0
 have hm:=HM.out.ext (lx hB0)
 have j1:=j1.ext (lx hB0)
 have j2:=j2.ext (lx hB0)
 have j3:=j3.ext (lx hB0)
 have j0:=j0.ext (lx hB0)
 have HM:=HidS.mk hm
 have hO:=OnlyZ.of (fun b=>b ∈ bst ∨ b ∈ bsi) hB0
 obtain ⟨x1,x2,x3,x4,x5,x6⟩:=bx.three
 obtain ⟨k0,k1,k2,k3,k4,k5,k6,k7⟩:=bm.eight
 have lx0:=bx.lt
 have lm0:=bm.lt
 have hmi:=List.mem_of_getElem? hbi
 have hmj:=List.mem_of_getElem? hbj
 have nmi:=List.mem_of_getElem? hci
 have nmj:=List.mem_of_getElem? hcj
 obtain ⟨g1,b1,eg1,hg1,hb1,hb12,o1,-⟩:=RowsO.at_ ht (i:=i) (by rw [ht.len]; exact hi)
 obtain ⟨g2,b2,eg2,hg2,hb2,hb22,o2,-⟩:=RowsO.at_ ht (i:=j) (by rw [ht.len]; exact hj)
 obtain rfl : gt = g1:=by injection eg1 with eg1; injection eg1
 obtain rfl : gt = g2:=by injection eg2 with eg2; injection eg2
 obtain rfl : bi = b1:=Option.some.inj (hbi.symm.trans hb1)
 obtain rfl : bj = b2:=Option.some.inj (hbj.symm.trans hb2)
 clear hW0 hm hb1 hb2 eg1 eg2
 refine wp_region_headed 11 rfl (RI W0 (W0.heap.size) _ 45
   [⟨0,8,fun _ v=>v = .pointer (some ⟨w.heap.size,1,none⟩)⟩,⟨1,9,fun _ v=>v = .slice (some ⟨gt,0,none⟩) n tc⟩,⟨2,10,fun _ v=>v = .int .i64 i⟩,⟨3,11,fun _ v=>v = .pointer (some ⟨gt,i,none⟩)⟩,⟨4,12,fun _ v=>v = .slice (some ⟨bi,0,none⟩) C C⟩,⟨5,13,fun _ v=>v = .pointer (some ⟨w.heap.size,1,none⟩)⟩,⟨6,14,fun _ v=>v = .slice (some ⟨gt,0,none⟩) n tc⟩,⟨7,15,fun _ v=>v = .int .i64 j⟩,⟨8,16,fun _ v=>v = .pointer (some ⟨gt,j,none⟩)⟩,⟨9,17,fun _ v=>v = .slice (some ⟨bj,0,none⟩) C C⟩,⟨10,18,fun _ v=>v = .agg #[.bool s0,.slice a0 l0 c0,.bool s1,.slice a1 l1 c1,.bool s2,.slice a2 l2 c2,.bool s3,.slice a3 l3 c3]⟩]
   [] []) kR RI.start ?fin1 ?steps1
 case steps1=>
  refine ⟨?_,?_,?_,?_,?_,?_,?_,?_,?_,?_,?_,trivial⟩ <;> (intro L T wS hL hd hcl hI K hK; try refine step_wanted rfl ?_)
  ·have zt : T[4]? = some (.pointer (some ⟨w.heap.size,0,none⟩)):=hI.keep 4 sI sI
   go_simp
   exact hK _ _ (hI.y mm0 rfl)
  ·obtain ⟨v0,zt0,rfl⟩:=hI.v mm0 (hd 0)
   have cc0:=hI.cell x2 oM nom
   go_simp
   exact hK _ _ (hI.y mm1 rfl)
  ·have zt : T[1]? = some (.int .i64 i):=hI.keep 1 sI sI
   go_simp
   exact hK _ _ (hI.y mm2 rfl)
  ·obtain ⟨v1,zt1,rfl⟩:=hI.v mm1 (hd 1)
   obtain ⟨v2,zt2,rfl⟩:=hI.v mm2 (hd 2)
   go_simp
   exact hK _ _ (hI.y mm3 rfl)
  ·obtain ⟨v3,zt3,rfl⟩:=hI.v mm3 (hd 3)
   have cc0:=hI.cell o1 oM nom
   go_simp
   exact hK _ _ (hI.y mm4 rfl)
  ·have zt : T[4]? = some (.pointer (some ⟨w.heap.size,0,none⟩)):=hI.keep 4 sI sI
   go_simp
   exact hK _ _ (hI.y mm5 rfl)
  ·obtain ⟨v5,zt5,rfl⟩:=hI.v mm5 (hd 5)
   have cc0:=hI.cell x2 oM nom
   go_simp
   exact hK _ _ (hI.y mm6 rfl)
  ·have zt : T[2]? = some (.int .i64 j):=hI.keep 2 sI sI
   go_simp
   exact hK _ _ (hI.y mm7 rfl)
  ·obtain ⟨v6,zt6,rfl⟩:=hI.v mm6 (hd 6)
   obtain ⟨v7,zt7,rfl⟩:=hI.v mm7 (hd 7)
   go_simp
   exact hK _ _ (hI.y mm8 rfl)
  ·obtain ⟨v8,zt8,rfl⟩:=hI.v mm8 (hd 8)
   have cc0:=hI.cell o2 oM nom
   go_simp
   exact hK _ _ (hI.y mm9 rfl)
  ·have zt : T[7]? = some (.pointer (some ⟨w.heap.size + 1,0,none⟩)):=hI.keep 7 sI sI
   have cc0:=hI.cell k0 oM nom
   have cc1:=hI.cell k1 oM nom
   have cc2:=hI.cell k2 oM nom
   have cc3:=hI.cell k3 oM nom
   have cc4:=hI.cell k4 oM nom
   have cc5:=hI.cell k5 oM nom
   have cc6:=hI.cell k6 oM nom
   have cc7:=hI.cell k7 oM nom
   go_simp
   exact hK _ _ (hI.y mm10 rfl)
 intro T w9 hI
 obtain ⟨va0,q0,rfl⟩:=hI.v mm0 rfl
 obtain ⟨va1,q1,rfl⟩:=hI.v mm1 rfl
 obtain ⟨va2,q2,rfl⟩:=hI.v mm2 rfl
 obtain ⟨va3,q3,rfl⟩:=hI.v mm3 rfl
 obtain ⟨va4,q4,rfl⟩:=hI.v mm4 rfl
 obtain ⟨va5,q5,rfl⟩:=hI.v mm5 rfl
 obtain ⟨va6,q6,rfl⟩:=hI.v mm6 rfl
 obtain ⟨va7,q7,rfl⟩:=hI.v mm7 rfl
 obtain ⟨va8,q8,rfl⟩:=hI.v mm8 rfl
 obtain ⟨va9,q9,rfl⟩:=hI.v mm9 rfl
 obtain ⟨va10,q10,rfl⟩:=hI.v mm10 rfl
 have hT:=tmps_set [(8,.pointer (some ⟨w.heap.size,1,none⟩)),(9,.slice (some ⟨gt,0,none⟩) n tc),(10,.int .i64 i),(11,.pointer (some ⟨gt,i,none⟩)),(12,.slice (some ⟨bi,0,none⟩) C C),(13,.pointer (some ⟨w.heap.size,1,none⟩)),(14,.slice (some ⟨gt,0,none⟩) n tc),(15,.int .i64 j),(16,.pointer (some ⟨gt,j,none⟩)),(17,.slice (some ⟨bj,0,none⟩) C C),(18,.agg #[.bool s0,.slice a0 l0 c0,.bool s1,.slice a1 l1 c1,.bool s2,.slice a2 l2 c2,.bool s3,.slice a3 l3 c3])]
  (fun j hj=>hI.keep j (by simp only [List.forall_mem_cons] at hj ⊢; simp [hj]) (by simp only [List.forall_mem_cons] at hj ⊢; simp [hj]))
  (by simp only [List.forall_mem_cons]; simp [q0,q1,q2,q3,q4,q5,q6,q7,q8,q9,q10]) hI.size
 have hlw9:=hI.lext
 have hbw9:=hI.bel (W0.heap.size) oM nom
 have holdw9:=hI.old
 clear hI
 simp only [List.foldl_cons,List.foldl_nil,List.setIfInBounds_toArray,List.set_cons_zero,List.set_cons_succ,ptr] at hT
 subst hT
 clear q0 q1 q2 q3 q4 q5 q6 q7 q8 q9 q10
 simp only [List.drop_succ_cons,List.drop_zero]
 have hO:=hO.trans (OnlyZ.of _ hbw9)
 have ht:=ht.below hbw9
 have hi_:=hi_.below hbw9
 have bx:=bx.below hbw9
 have bm:=bm.below hbw9
 have HM:=HidS.mk (HM.out.ext (lx hbw9))
 have j1:=j1.ext (lx hbw9)
 have j2:=j2.ext (lx hbw9)
 have j3:=j3.ext (lx hbw9)
 have j0:=j0.ext (lx hbw9)
 clear o1 o2 x1 x2 x3 x4 x5 x6 k0 k1 k2 k3 k4 k5 k6 k7
 go_wp2_with fail
 refine (blendRows ht hi hj hij hbi hbj HM.out hC HT.out HK.out).mono ?_
 rintro e w10 ⟨⟨uu,rfl⟩,ho,ht2⟩
 have hrbi:=ht.rowAt hi hbi
 have hrbj:=ht.rowAt hj hbj
 have hO:=hO.trans (⟨ho.bel,ho.lext,fun k hk hn=>ho.old k hk (by simp; exact ⟨fun hh=>hn (.inl (hh ▸ hmi)),fun hh=>hn (.inl (hh ▸ hmj))⟩)⟩ : OnlyZ (fun b=>b ∈ bst ∨ b ∈ bsi) w9 w10)
 have hi_:=hi_.only2 ho (fti _ hmi) (fti _ hmj) hrbi hrbj
 have bx:=(ho.old _ bx.lt (by simp; omega)).trans bx
 have bm:=(ho.old _ bm.lt (by simp; omega)).trans bm
 have j1:=j1.ext ho.lext
 have j2:=j2.ext ho.lext
 have j3:=j3.ext ho.lext
 have j0:=j0.ext ho.lext
 clear hrbi hrbj
 replace bx : Blk w10 w.heap.size 114 #[.slice as_ al ac,.slice (some ⟨gt,0,none⟩) n tc,.slice (some ⟨gi,0,none⟩) n ic]:=bx
 replace bm : Blk w10 (w.heap.size + 1) 140 #[.bool s0,.slice a0 l0 c0,.bool s1,.slice a1 l1 c1,.bool s2,.slice a2 l2 c2,.bool s3,.slice a3 l3 c3]:=bm
 obtain ⟨x1,x2,x3,x4,x5,x6⟩:=bx.three
 obtain ⟨k0,k1,k2,k3,k4,k5,k6,k7⟩:=bm.eight
 have lx0:=bx.lt
 have lm0:=bm.lt
 obtain ⟨g1,b1,eg1,hg1,hb1,hb12,o1,-⟩:=RowsO.at_ hi_ (i:=i) (by rw [hi_.len]; exact hi)
 obtain ⟨g2,b2,eg2,hg2,hb2,hb22,o2,-⟩:=RowsO.at_ hi_ (i:=j) (by rw [hi_.len]; exact hj)
 obtain rfl : gi = g1:=by injection eg1 with eg1; injection eg1
 obtain rfl : gi = g2:=by injection eg2 with eg2; injection eg2
 obtain rfl : ci = b1:=Option.some.inj (hci.symm.trans hb1)
 obtain rfl : cj = b2:=Option.some.inj (hcj.symm.trans hb2)
 clear hb1 hb2 eg1 eg2
 have hl2:=lasts_m2 m3 (-m2)
 have hl3:=lasts_m2 (-m1) m0
 have hl4:=lasts_m4 m3 (-m2) (-m1) m0
 go_upto_region 2 with (fail)
 refine wp_region_headed 27 rfl (RI w10 (w10.heap.size) _ 45
   [⟨0,20,fun _ v=>v = .pointer (some ⟨w.heap.size,2,none⟩)⟩,⟨1,21,fun _ v=>v = .slice (some ⟨gi,0,none⟩) n ic⟩,⟨2,22,fun _ v=>v = .int .i64 i⟩,⟨3,23,fun _ v=>v = .pointer (some ⟨gi,i,none⟩)⟩,⟨4,24,fun _ v=>v = .slice (some ⟨ci,0,none⟩) C C⟩,⟨5,25,fun _ v=>v = .pointer (some ⟨w.heap.size,2,none⟩)⟩,⟨6,26,fun _ v=>v = .slice (some ⟨gi,0,none⟩) n ic⟩,⟨7,27,fun _ v=>v = .int .i64 j⟩,⟨8,28,fun _ v=>v = .pointer (some ⟨gi,j,none⟩)⟩,⟨9,29,fun _ v=>v = .slice (some ⟨cj,0,none⟩) C C⟩,⟨10,30,fun _ v=>v = .pointer (some ⟨w.heap.size + 1,4,none⟩)⟩,⟨11,31,fun _ v=>v = .pointer (some ⟨w.heap.size + 1,6,none⟩)⟩,⟨12,32,fun _ v=>v = .agg #[.bool s3,.slice a3 l3 c3]⟩,⟨13,33,fun _ v=>v = .pointer (some ⟨w.heap.size + 1,4,none⟩)⟩,⟨14,34,fun _ v=>v = .pointer (some ⟨w.heap.size + 1,4,none⟩)⟩,⟨15,35,fun _ v=>v = .agg #[.bool s2,.slice a2 l2 c2]⟩,⟨16,36,fun w v=>IntV w v (-m2)⟩,⟨17,37,M2V m3 (-m2)⟩,⟨18,38,fun _ v=>v = .pointer (some ⟨w.heap.size + 1,0,none⟩)⟩,⟨19,39,fun _ v=>v = .pointer (some ⟨w.heap.size + 1,2,none⟩)⟩,⟨20,40,fun _ v=>v = .agg #[.bool s1,.slice a1 l1 c1]⟩,⟨21,41,fun w v=>IntV w v (-m1)⟩,⟨22,42,fun _ v=>v = .pointer (some ⟨w.heap.size + 1,0,none⟩)⟩,⟨23,43,fun _ v=>v = .pointer (some ⟨w.heap.size + 1,0,none⟩)⟩,⟨24,44,fun _ v=>v = .agg #[.bool s0,.slice a0 l0 c0]⟩,⟨25,45,M2V (-m1) m0⟩,⟨26,46,fun w v=>M4V w v m3 (-m2) (-m1) m0⟩]
   [] []) kR RI.start ?fin2 ?steps2
 case steps2=>
  refine ⟨?_,?_,?_,?_,?_,?_,?_,?_,?_,?_,?_,?_,?_,?_,?_,?_,?_,?_,?_,?_,?_,?_,?_,?_,?_,?_,?_,trivial⟩ <;> (intro L T wS hL hd hcl hI K hK; try refine step_wanted rfl ?_)
  ·have zt : T[4]? = some (.pointer (some ⟨w.heap.size,0,none⟩)):=hI.keep 4 sI sI
   go_simp
   exact hK _ _ (hI.y mm0 rfl)
  ·obtain ⟨v0,zt0,rfl⟩:=hI.v mm0 (hd 0)
   have cc0:=hI.cell x3 oM nom
   go_simp
   exact hK _ _ (hI.y mm1 rfl)
  ·have zt : T[1]? = some (.int .i64 i):=hI.keep 1 sI sI
   go_simp
   exact hK _ _ (hI.y mm2 rfl)
  ·obtain ⟨v1,zt1,rfl⟩:=hI.v mm1 (hd 1)
   obtain ⟨v2,zt2,rfl⟩:=hI.v mm2 (hd 2)
   go_simp
   exact hK _ _ (hI.y mm3 rfl)
  ·obtain ⟨v3,zt3,rfl⟩:=hI.v mm3 (hd 3)
   have cc0:=hI.cell o1 oM nom
   go_simp
   exact hK _ _ (hI.y mm4 rfl)
  ·have zt : T[4]? = some (.pointer (some ⟨w.heap.size,0,none⟩)):=hI.keep 4 sI sI
   go_simp
   exact hK _ _ (hI.y mm5 rfl)
  ·obtain ⟨v5,zt5,rfl⟩:=hI.v mm5 (hd 5)
   have cc0:=hI.cell x3 oM nom
   go_simp
   exact hK _ _ (hI.y mm6 rfl)
  ·have zt : T[2]? = some (.int .i64 j):=hI.keep 2 sI sI
   go_simp
   exact hK _ _ (hI.y mm7 rfl)
  ·obtain ⟨v6,zt6,rfl⟩:=hI.v mm6 (hd 6)
   obtain ⟨v7,zt7,rfl⟩:=hI.v mm7 (hd 7)
   go_simp
   exact hK _ _ (hI.y mm8 rfl)
  ·obtain ⟨v8,zt8,rfl⟩:=hI.v mm8 (hd 8)
   have cc0:=hI.cell o2 oM nom
   go_simp
   exact hK _ _ (hI.y mm9 rfl)
  ·have zt : T[7]? = some (.pointer (some ⟨w.heap.size + 1,0,none⟩)):=hI.keep 7 sI sI
   go_simp
   exact hK _ _ (hI.y mm10 rfl)
  ·obtain ⟨v10,zt10,rfl⟩:=hI.v mm10 (hd 10)
   go_simp
   exact hK _ _ (hI.y mm11 rfl)
  ·obtain ⟨v11,zt11,rfl⟩:=hI.v mm11 (hd 11)
   have cc0:=hI.cell k6 oM nom
   have cc1:=hI.cell k7 oM nom
   go_simp
   exact hK _ _ (hI.y mm12 rfl)
  ·have zt : T[7]? = some (.pointer (some ⟨w.heap.size + 1,0,none⟩)):=hI.keep 7 sI sI
   go_simp
   exact hK _ _ (hI.y mm13 rfl)
  ·obtain ⟨v13,zt13,rfl⟩:=hI.v mm13 (hd 13)
   go_simp
   exact hK _ _ (hI.y mm14 rfl)
  ·obtain ⟨v14,zt14,rfl⟩:=hI.v mm14 (hd 14)
   have cc0:=hI.cell k4 oM nom
   have cc1:=hI.cell k5 oM nom
   go_simp
   exact hK _ _ (hI.y mm15 rfl)
  ·obtain ⟨v15,zt15,rfl⟩:=hI.v mm15 (hd 15)
   go_simp
   refine (neg_any _ m2 _ (j2.ext hI.lext).weak HK.out.2.2.1).mono ?_
   rintro e wa ⟨v,rfl,hv,hba⟩
   exact hK _ _ ((hI.world hba).y mm16 hv)
  ·obtain ⟨v12,zt12,rfl⟩:=hI.v mm12 (hd 12)
   obtain ⟨v16,zt16,h16⟩:=hI.v mm16 (hd 16)
   obtain ⟨a16,b16,d16,e16,x16,rfl,y16⟩:=id h16
   go_simp
   exact hK _ _ (hI.y mm17 ⟨_,_,_,_,_,_,_,_,rfl,j3.ext hI.lext,h16⟩)
  ·have zt : T[7]? = some (.pointer (some ⟨w.heap.size + 1,0,none⟩)):=hI.keep 7 sI sI
   go_simp
   exact hK _ _ (hI.y mm18 rfl)
  ·obtain ⟨v18,zt18,rfl⟩:=hI.v mm18 (hd 18)
   go_simp
   exact hK _ _ (hI.y mm19 rfl)
  ·obtain ⟨v19,zt19,rfl⟩:=hI.v mm19 (hd 19)
   have cc0:=hI.cell k2 oM nom
   have cc1:=hI.cell k3 oM nom
   go_simp
   exact hK _ _ (hI.y mm20 rfl)
  ·obtain ⟨v20,zt20,rfl⟩:=hI.v mm20 (hd 20)
   go_simp
   refine (neg_any _ m1 _ (j1.ext hI.lext).weak HK.out.2.1).mono ?_
   rintro e wa ⟨v,rfl,hv,hba⟩
   exact hK _ _ ((hI.world hba).y mm21 hv)
  ·have zt : T[7]? = some (.pointer (some ⟨w.heap.size + 1,0,none⟩)):=hI.keep 7 sI sI
   go_simp
   exact hK _ _ (hI.y mm22 rfl)
  ·obtain ⟨v22,zt22,rfl⟩:=hI.v mm22 (hd 22)
   go_simp
   exact hK _ _ (hI.y mm23 rfl)
  ·obtain ⟨v23,zt23,rfl⟩:=hI.v mm23 (hd 23)
   have cc0:=hI.cell k0 oM nom
   have cc1:=hI.cell k1 oM nom
   go_simp
   exact hK _ _ (hI.y mm24 rfl)
  ·obtain ⟨v21,zt21,h21⟩:=hI.v mm21 (hd 21)
   obtain ⟨v24,zt24,rfl⟩:=hI.v mm24 (hd 24)
   obtain ⟨a21,b21,d21,e21,x21,rfl,y21⟩:=id h21
   go_simp
   exact hK _ _ (hI.y mm25 ⟨_,_,_,_,_,_,_,_,rfl,h21,j0.ext hI.lext⟩)
  ·obtain ⟨v17,zt17,h17⟩:=hI.v mm17 (hd 17)
   obtain ⟨v25,zt25,h25⟩:=hI.v mm25 (hd 25)
   obtain ⟨p0,p1,p2,p3,p4,p5,p6,p7,rfl,p8,p9⟩:=h17
   obtain ⟨q0,q1,q2,q3,q4,q5,q6,q7,rfl,q8,q9⟩:=h25
   go_simp
   exact hK _ _ (hI.y mm26 ⟨_,_,_,_,_,_,_,_,_,_,_,_,_,_,_,_,rfl,p8,p9,q8,q9⟩)
 intro T w12 hI
 obtain ⟨vb0,q0,rfl⟩:=hI.v mm0 rfl
 obtain ⟨vb1,q1,rfl⟩:=hI.v mm1 rfl
 obtain ⟨vb2,q2,rfl⟩:=hI.v mm2 rfl
 obtain ⟨vb3,q3,rfl⟩:=hI.v mm3 rfl
 obtain ⟨vb4,q4,rfl⟩:=hI.v mm4 rfl
 obtain ⟨vb5,q5,rfl⟩:=hI.v mm5 rfl
 obtain ⟨vb6,q6,rfl⟩:=hI.v mm6 rfl
 obtain ⟨vb7,q7,rfl⟩:=hI.v mm7 rfl
 obtain ⟨vb8,q8,rfl⟩:=hI.v mm8 rfl
 obtain ⟨vb9,q9,rfl⟩:=hI.v mm9 rfl
 obtain ⟨vb10,q10,rfl⟩:=hI.v mm10 rfl
 obtain ⟨vb11,q11,rfl⟩:=hI.v mm11 rfl
 obtain ⟨vb12,q12,rfl⟩:=hI.v mm12 rfl
 obtain ⟨vb13,q13,rfl⟩:=hI.v mm13 rfl
 obtain ⟨vb14,q14,rfl⟩:=hI.v mm14 rfl
 obtain ⟨vb15,q15,rfl⟩:=hI.v mm15 rfl
 obtain ⟨vb16,q16,hb16⟩:=hI.v mm16 rfl
 replace hb16 : IntV w12 vb16 (-m2):=hb16
 obtain ⟨vb17,q17,hb17⟩:=hI.v mm17 rfl
 obtain ⟨vb18,q18,rfl⟩:=hI.v mm18 rfl
 obtain ⟨vb19,q19,rfl⟩:=hI.v mm19 rfl
 obtain ⟨vb20,q20,rfl⟩:=hI.v mm20 rfl
 obtain ⟨vb21,q21,hb21⟩:=hI.v mm21 rfl
 replace hb21 : IntV w12 vb21 (-m1):=hb21
 obtain ⟨vb22,q22,rfl⟩:=hI.v mm22 rfl
 obtain ⟨vb23,q23,rfl⟩:=hI.v mm23 rfl
 obtain ⟨vb24,q24,rfl⟩:=hI.v mm24 rfl
 obtain ⟨vb25,q25,hb25⟩:=hI.v mm25 rfl
 obtain ⟨vb26,q26,hb26⟩:=hI.v mm26 rfl
 have hT:=tmps_set [(20,.pointer (some ⟨w.heap.size,2,none⟩)),(21,.slice (some ⟨gi,0,none⟩) n ic),(22,.int .i64 i),(23,.pointer (some ⟨gi,i,none⟩)),(24,.slice (some ⟨ci,0,none⟩) C C),(25,.pointer (some ⟨w.heap.size,2,none⟩)),(26,.slice (some ⟨gi,0,none⟩) n ic),(27,.int .i64 j),(28,.pointer (some ⟨gi,j,none⟩)),(29,.slice (some ⟨cj,0,none⟩) C C),(30,.pointer (some ⟨w.heap.size + 1,4,none⟩)),(31,.pointer (some ⟨w.heap.size + 1,6,none⟩)),(32,.agg #[.bool s3,.slice a3 l3 c3]),(33,.pointer (some ⟨w.heap.size + 1,4,none⟩)),(34,.pointer (some ⟨w.heap.size + 1,4,none⟩)),(35,.agg #[.bool s2,.slice a2 l2 c2]),(36,vb16),(37,vb17),(38,.pointer (some ⟨w.heap.size + 1,0,none⟩)),(39,.pointer (some ⟨w.heap.size + 1,2,none⟩)),(40,.agg #[.bool s1,.slice a1 l1 c1]),(41,vb21),(42,.pointer (some ⟨w.heap.size + 1,0,none⟩)),(43,.pointer (some ⟨w.heap.size + 1,0,none⟩)),(44,.agg #[.bool s0,.slice a0 l0 c0]),(45,vb25),(46,vb26)]
  (fun j hj=>hI.keep j (by simp only [List.forall_mem_cons] at hj ⊢; simp [hj]) (by simp only [List.forall_mem_cons] at hj ⊢; simp [hj]))
  (by simp only [List.forall_mem_cons]; simp [q0,q1,q2,q3,q4,q5,q6,q7,q8,q9,q10,q11,q12,q13,q14,q15,q16,q17,q18,q19,q20,q21,q22,q23,q24,q25,q26]) hI.size
 have hlw12:=hI.lext
 have hbw12:=hI.bel (w10.heap.size) oM nom
 have holdw12:=hI.old
 clear hI
 simp only [List.foldl_cons,List.foldl_nil,List.setIfInBounds_toArray,List.set_cons_zero,List.set_cons_succ,ptr] at hT
 subst hT
 clear q0 q1 q2 q3 q4 q5 q6 q7 q8 q9 q10 q11 q12 q13 q14 q15 q16 q17 q18 q19 q20 q21 q22 q23 q24 q25 q26
 simp only [List.drop_succ_cons,List.drop_zero]
 have hO:=hO.trans (OnlyZ.of _ hbw12)
 have ht2:=ht2.below hbw12
 have hi_:=hi_.below hbw12
 clear o1 o2 x1 x2 x3 x4 x5 x6 k0 k1 k2 k3 k4 k5 k6 k7
 have hb26' : M4V w12 vb26 m3 (-m2) (-m1) m0:=hb26
 obtain ⟨p0,p1,p2,p3,p4,p5,p6,p7,p8,p9,p10,p11,p12,p13,p14,p15,rfl,-⟩:=id hb26'
 go_wp2_with fail
 refine (blendRows hi_ hi hj hij hci hcj hb26' hC HI.out HK2.out).mono ?_
 rintro e w13 ⟨⟨uu2,rfl⟩,ho,hi2⟩
 have hrbi:=hi_.rowAt hi hci
 have hrbj:=hi_.rowAt hj hcj
 have hO:=hO.trans (⟨ho.bel,ho.lext,fun k hk hn=>ho.old k hk (by simp; exact ⟨fun hh=>hn (.inr (hh ▸ nmi)),fun hh=>hn (.inr (hh ▸ nmj))⟩)⟩ : OnlyZ (fun b=>b ∈ bst ∨ b ∈ bsi) w12 w13)
 have ht2:=ht2.only2 ho (fun hh=>fti _ hh nmi) (fun hh=>fti _ hh nmj) hrbi hrbj
 go_wp2
 exact bodyPost_end (results_none rfl _ _ _) rfl ⟨⟨_,rfl⟩,hO,ht2,hi2⟩
theorem newD_idle (w : World) :
  CallsD Tryz.prog 97 #[] .returning w fun e u' w'=>e = .returned (.tuple #[])/\u' = .returning/\w' = w:=by
 refine callsD_of_wpS Tryz.func97 rfl fun c₀ cs hu=>?_
 apply wpS_region
 simp [wpOpsS,go_sem,recoverD,hu,Tryz.ntmps97,bodyPostS,results,Tryz.results97]
 cases c₀
 simp_all
theorem mkR (m : Int) (n : Nat) (hm : m = n) (h : n<=1099511627776) (W : World) :
  (Instr.makeSlice 26 (.int .i64 m) (.int .i64 m)).run Tryz.prog W = .ok (.slice (some ⟨W.heap.size,0,none⟩) n n) (W.alloc (.cells (madeCells (Value.slice none 0 0).cells (n * 1)) tR)):=by
 subst hm
 obtain ⟨i0,hi,hz0,hz1,hz2⟩:=info_parts Tryz.infoR
 have:=run_make_rowN (P:=Tryz.prog) 26 tR i0 _ Tryz.underlying26 hi hz0 .i64 .i64 n n (Nat.le_refl _) (by rw [hz2]; omega) oM W
 rw [this,hz1]
def partRows (n C : Nat) (bs : List Nat) : Array Value:=(rowPtrs C bs ++ List.replicate (n - bs.length) (Value.slice none 0 0)).toArray
theorem partRows_start (n C : Nat) : madeCells #[Value.slice none 0 0] n = partRows n C []:=by
 apply Array.ext
 ·simp [madeCells,partRows,rowPtrs]
 ·intro i h1 h2
  simp [madeCells,partRows,rowPtrs,Nat.mod_one,Value.cells]
theorem partRows_size {n C : Nat} {bs : List Nat} (h : bs.length<=n) : (partRows n C bs).size = n:=by simp [partRows,rowPtrs]; omega
theorem partRows_set {n C b : Nat} {bs : List Nat} (h : bs.length < n) : (partRows n C bs).setIfInBounds bs.length (.slice (some ⟨b,0,none⟩) C C) = partRows n C (bs ++ [b]):=by
 apply Array.ext
 ·simp [partRows,rowPtrs]; omega
 ·intro i h1 h2
  have hi : i < n:=by simpa [partRows_size (C:=C) (Nat.le_of_lt h)] using h1
  by_cases e : i = bs.length
  ·subst e
   simp [partRows,rowPtrs]
  ·have e2 : bs.length ≠ i:=fun hh=>e hh.symm
   rw [Array.getElem_setIfInBounds_ne (by simpa using h1) e2]
   rcases Nat.lt_or_ge i bs.length with hl | hl
   ·simp [partRows,rowPtrs,hl,List.getElem_append,Nat.lt_succ_of_lt hl]
   ·have h3 : ¬ i < bs.length:=by omega
    have h4 : ¬ i < bs.length + 1:=by omega
    obtain ⟨p,hp⟩ : ∃p,i - bs.length = p + 1:=⟨i - bs.length - 1,by omega⟩
    simp [partRows,rowPtrs,List.getElem_append,h3,h4,hp]
set_option maxHeartbeats 4000000 in
set_option maxRecDepth 20000 in
theorem mnew_any (R C : Nat) (w : World) (hR : R<=1000000) (hC : C<=1000000) :
  Calls Tryz.prog 60 #[.int .i64 R,.int .i64 C] w (RetMat w R C (zerosM R C)):=by
 have hmf : ∀(fn : Fn) (first cap : Array Value) (w : World),(Instr.makeFunc fn first cap).run Tryz.prog w = .ok (.func fn first cap) w:=fun _ _ _ _=>rfl
 have hmkR:=fun W=>mkR (R : Int) R rfl oM W
 have hmkC:=fun W=>mkI (C : Int) C rfl oM W
 go_enter_defers Tryz.func60,Tryz.ntmps60
 go_upto_region 4 with (fail)
 refine wp_world ?_
 intro W0 hW0
 obtain ⟨hB0,br,bA,hs0⟩:=world2 hW0
 rw [partRows_start R C] at bA
 clear hW0 hmkR
 go_wp2
 go_loopw [15] (fun iv wr=>∃(k : Nat) (bs : List Nat),k<=R/\iv = .int .i64 k/\bs.length = k/\bs.Nodup/\(∀b ∈ bs,w.heap.size + 1 < b/\RowAt wr b (genV C (fun _=>0)))/\Below w.heap.size w wr/\Blk wr w.heap.size 28 #[.int .i64 0,.int .i64 0,.slice none 0 0]/\Blk wr (w.heap.size + 1) tR (partRows R C bs)) (fun iv _=>R - (intOf iv).toNat)
 case atStart=>exact ⟨0,[],by omega,rfl,rfl,by simp,by simp,hB0,br,bA⟩
 case round=>
  obtain ⟨k,bs,hk,rfl,hbl,hnd,hrows,hb,br,bA⟩:=hrel
  have hsz:=hb.size
  have HR:=HidS.mk (And.intro hnd hrows)
  clear hnd hrows
  by_cases hlt : k < R
  ·have hmkC:=hmkC wr
   have lA:=bA.lt
   have lr:=br.lt
   have bA1 : Blk (wr.alloc (.cells (zeroCells C) tI)) (w.heap.size + 1) tR (partRows R C bs):=bA.below ((Below.refl _ _).alloc (Nat.le_refl _) _)
   have f1:=bA1.frozen k
   obtain ⟨u,f2⟩ : ∃u,(wr.alloc (.cells (zeroCells C) tI)).cell? ⟨w.heap.size + 1,k,none⟩ = some u:=by
    rw [bA1.cell k]
    exact ⟨_,Array.getElem?_eq_getElem (by rw [partRows_size oM]; exact hlt)⟩
   go_wp2
   go_roundw
   case rel=>
    have hset:=bA.set_ k (.slice (some ⟨wr.heap.size,0,none⟩) C C)
    rw [<-hbl,partRows_set oM,hbl] at hset
    have hsw : (wr.setCell ⟨w.heap.size + 1,k,none⟩ (.slice (some ⟨wr.heap.size,0,none⟩) C C)).heap.size = wr.heap.size:=by simp [World.setCell]
    have hx1:=bA.lext dE k (.slice (some ⟨wr.heap.size,0,none⟩) C C)
    have hb3 : Below (wr.setCell ⟨w.heap.size + 1,k,none⟩ (.slice (some ⟨wr.heap.size,0,none⟩) C C)).heap.size (wr.setCell ⟨w.heap.size + 1,k,none⟩ (.slice (some ⟨wr.heap.size,0,none⟩) C C)) ((wr.setCell ⟨w.heap.size + 1,k,none⟩ (.slice (some ⟨wr.heap.size,0,none⟩) C C)).alloc (.cells (zeroCells C) tI)):=(Below.refl _ _).alloc (Nat.le_refl _) _
    refine ⟨k + 1,bs ++ [wr.heap.size],by omega,by simp,by simp [hbl],?_,?_,(bset hb oM _ _).alloc oM _,?_,hset.below hb3⟩
    ·rw [List.nodup_append]
     refine ⟨HR.out.1,by simp,fun x hx y hy=>?_⟩
     simp at hy
     subst hy
     have:=(HR.out.2 x hx).2.lt
     omega
    ·intro b hb'
     rcases List.mem_append.1 hb' with h1 | h1
     ·obtain ⟨h2,h3⟩:=HR.out.2 b h1
      exact ⟨h2,(h3.old (setCell_old _ _ _ _ _ oM) hx1).below hb3⟩
     ·simp at h1
      subst h1
      refine ⟨by omega,?_⟩
      have h4:=row_zero (wr.setCell ⟨w.heap.size + 1,k,none⟩ (.slice (some ⟨wr.heap.size,0,none⟩) C C)) C
      have h5 : List.replicate C (0 : Int) = genV C (fun _=>0):=by
       apply List.ext_getElem
       ·simp [genV]
       ·intro i h1 h2; simp [genV]
      rw [h5,hsw] at h4
      exact h4
    ·exact Blk.below (Blk.far br oM _ _) hb3
   case measure=>simp [intOf]; omega
  ·obtain rfl : k = R:=by omega
   obtain ⟨c1,c2,c3,c4,c5,c6⟩:=br.three
   have hz0 : List.replicate C (0 : Int) = genV C (fun _=>0):=by
    apply List.ext_getElem
    ·simp [genV]
    ·intro i h1 h2; simp [genV]
   have HZ:=HidS.mk hz0
   have hpr : (partRows k C bs).toList = rowPtrs C bs:=by simp [partRows,hbl]
   have HPR:=HidS.mk hpr
   clear hz0 hpr
   go_wp2
   refine leaves_cons (f:=97) (args:=#[]) sI (by simp [go_sem]) ?_
   refine (newD_idle _).mono ?_
   rintro e u' w'' ⟨rfl,rfl,rfl⟩
   have hx:=br.lext3 dE (.int .i64 k) (.int .i64 C) (.slice (some ⟨w.heap.size + 1,0,none⟩) k k)
   refine ⟨_,results_cell_row rfl _ _ w.heap.size _ _ _ _ rfl (br.put3 _ _ _) Tryz.underlying28 rfl (by rw [Tryz.sizeM]; rfl),_,bs,rfl,⟨hbl,_,rfl,?_⟩,bset (bset (bset hb oM 0 _) oM 1 _) oM 2 _⟩
   refine ⟨⟨by simp [rowPtrs],.inr ⟨w.heap.size + 1,k,partRows k C bs,by rw [hbl],by omega,(set3_old _ _ _ _ _ _ oM).trans bA,by omega,by simp [maxLen]; omega,by rw [partRows_size oM]; omega,?_⟩⟩,by simp [zerosM,hbl],?_,HR.out.1,by omega⟩
   ·rw [HPR.out,hbl,Nat.mul_one,List.take_of_length_le (by simp [rowPtrs,hbl])]
   ·intro i b r hi hr
    have hm:=List.mem_of_getElem? hi
    obtain ⟨h1,h2⟩:=HR.out.2 b hm
    have hik : i < k:=by have:=(List.getElem?_eq_some_iff.1 hi).1; omega
    obtain rfl : r = List.replicate C 0:=by
     unfold zerosM at hr
     rw [List.getElem?_replicate,if_pos hik] at hr
     injection hr with hr
     exact hr.symm
    refine ⟨by omega,by simp,?_⟩
    rw [HZ.out]
    exact h2.old (set3_old _ _ _ _ _ _ oM) hx
end Go.Proofs.YtnocgagoaldfnaaGreat
