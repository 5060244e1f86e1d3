/- Joined. -/
import Derived.ChangeArms
import Derived.ProofKit
import Derived.OpenShut
import Derived.Test.YtnocgagoaldfnaaGreatD37
import Derived.Test.YtnocgagoaldfnaaGreatD45
set_option linter.unusedVariables false
set_option linter.unusedSimpArgs false
set_option linter.unusedSectionVars false
namespace Go.Proofs.YtnocgagoaldfnaaGreat
open Go.RowKit
abbrev sW:=@step_wanted
abbrev Hk:=@HidS.mk
theorem midentityM (n : Nat) (w : World) (hn : n<=1000000) : Calls Tryz.prog 49 #[.int .i64 n] w fun e w'=>∃v,e = .returned v/\MatV w' v n n (genM n n idf)/\Below w.heap.size w w':=
 (midentity_any n w hn).mono fun _ _ ⟨v,bs,e,h,hb⟩=>⟨v,e,h.mat.1,hb⟩
theorem mequalT (v1 v2 : Value) (R C : Nat) (M1 M2 : List (List Int)) (w : World) (h1 : MatV w v1 R C M1) (h2 : MatV w v2 R C M2) (hF1 : Fits R C M1) (hF2 : Fits R C M2) (hC : C<=1000000) (he : M1 = M2) :
  Calls Tryz.prog 69 #[v1,v2] w fun e w'=>∃v,e = .returned v/\v = .bool true/\Below w.heap.size w w':=
 (mequal_any v1 v2 R C M1 M2 w h1 h2 hF1 hF2 hC).mono fun e w' ⟨h,hb⟩=>⟨_,h,by rw [decide_eq_true he],hb⟩
theorem mmulM (v1 v2 : Value) (R m C : Nat) (M1 M2 : List (List Int)) (w : World) (h1 : MatV w v1 R m M1) (h2 : MatV w v2 m C M2) (hF1 : Fits R m M1) (hF2 : Fits m C M2) (hR : R<=1000000) (hm : m<=1000000) (hC : C<=1000000) (hS : MulSm M1 M2 R m C) :
  Calls Tryz.prog 68 #[v1,v2] w fun e w'=>∃o c k,e = .returned (.tuple #[.agg #[.int .i64 R,.int .i64 C,.slice o c k],.int .i64 0])/\MatV w' (.agg #[.int .i64 R,.int .i64 C,.slice o c k]) R C (genM R C (mulf M1 M2 m))/\Below w.heap.size w w':=by
 refine (mmul_any v1 v2 R m C M1 M2 w h1 h2 hF1 hF2 hR hm hC hS).mono ?_
 rintro e w' ⟨v,bs,rfl,h,hb⟩
 obtain ⟨A,rfl,ao,n,cap,rfl,h3⟩:=h.mat.1
 exact ⟨_,_,_,rfl,h.mat.1,hb⟩
set_option maxHeartbeats 4000000 in
set_option maxRecDepth 20000 in
theorem inverses_true (v1 v2 : Value) (n : Nat) (U V : List (List Int)) (w : World) (h1 : MatV w v1 n n U) (h2 : MatV w v2 n n V) (hF1 : Fits n n U) (hF2 : Fits n n V) (hn : n<=1000000) (hS : MulSm U V n n n) (hp : genM n n (mulf U V n) = genM n n idf) :
  Calls Tryz.prog 67 #[v1,v2,.int .i64 n] w fun e w'=>∃v,e = .returned v/\v = .bool true/\Below w.heap.size w w':=by
 have H1:=Hk h1
 have H2:=Hk h2
 obtain ⟨A1,rfl,h1⟩:=h1
 obtain ⟨A2,rfl,h2⟩:=h2
 obtain ⟨ao,an,ac,rfl,-⟩:=id h1
 obtain ⟨bo,bn,bc,rfl,-⟩:=id h2
 have HF1:=Hk hF1
 have HF2:=Hk hF2
 have HS:=Hk hS
 have HP:=Hk hp
 have hdv1 : decide (ValidM n n U) = true:=decide_eq_true hF1.valid
 have hdv2 : decide (ValidM n n V) = true:=decide_eq_true hF2.valid
 clear hF1 hF2 hS hp h1 h2
 go_enter Tryz.func67,Tryz.ntmps67
 go_upto_region 1 with (fail)
 refine wp_world ?_
 intro W0 hW0
 obtain ⟨hB0,bx1,bx2,hs0⟩:=world2 hW0
 obtain ⟨c1,c2,c3,c4,c5,c6⟩:=bx1.three
 obtain ⟨d1,d2,d3,d4,d5,d6⟩:=bx2.three
 clear hW0
 go_wp2_with fail
 refine (mvalid_any _ n n U W0 (H1.out.below hB0)).mono ?_
 rintro e w1 ⟨rfl,hb1⟩
 rw [hdv1]
 have hB:=nx hB0 hb1
 have bx1:=bx1.below hb1
 have bx2:=bx2.below hb1
 clear c1 c2 c3 c4 c5 c6 d1 d2 d3 d4 d5 d6 hdv1
 obtain ⟨c1,c2,c3,c4,c5,c6⟩:=bx1.three
 obtain ⟨d1,d2,d3,d4,d5,d6⟩:=bx2.three
 go_wp2_with fail
 refine (mvalid_any _ n n V w1 (H2.out.below hB)).mono ?_
 rintro e w2 ⟨rfl,hb2⟩
 rw [hdv2]
 have hB:=nx hB hb2
 have bx1:=bx1.below hb2
 have bx2:=bx2.below hb2
 clear c1 c2 c3 c4 c5 c6 d1 d2 d3 d4 d5 d6 hdv2
 obtain ⟨c1,c2,c3,c4,c5,c6⟩:=bx1.three
 obtain ⟨d1,d2,d3,d4,d5,d6⟩:=bx2.three
 go_wp2_with fail
 refine (mmulM _ _ n n n U V w2 (H1.out.below hB) (H2.out.below hB) HF1.out HF2.out hn hn hn HS.out).mono ?_
 rintro e w3 ⟨o,c,k,rfl,hm,hb3⟩
 have hB:=nx hB hb3
 have HM:=Hk hm
 clear c1 c2 c3 c4 c5 c6 d1 d2 d3 d4 d5 d6 hm
 go_upto_region 4 with (fail)
 refine wp_world ?_
 intro W4 hW4
 obtain ⟨hB4,T7,hs4⟩:=world1 hW4
 have hB:=nx hB hB4
 have HM:=Hk (HM.out.below hB4)
 obtain ⟨c1,c2,c3,c4,c5,c6⟩:=T7.three
 clear hW4
 refine wp_region_each rfl (RV W4 _ [⟨0,41,fun _ v=>v = .int .i64 0⟩,⟨1,42,fun _ v=>v = .bool true⟩,⟨2,43,fun _ v=>v = .bool true⟩,⟨3,44,fun _ v=>v = .agg #[.int .i64 n,.int .i64 n,.slice o c k]⟩,⟨4,45,fun _ v=>v = .int .i64 n⟩,⟨5,46,fun w v=>MatV w v (n) (n) (genM n n idf)⟩,⟨6,47,fun _ v=>v = .bool true⟩,⟨7,48,fun _ v=>v = .bool true⟩,⟨8,6,fun _ v=>v = .bool true⟩]) kR RV.start ?fin1 ?steps1
 case steps1=>
  refine ⟨?_,?_,?_,?_,?_,?_,?_,?_,?_,trivial⟩ <;> (intro L T wS hL hd hcl hI K hK; try refine sW rfl ?_)
  ·have zt : T[8]? = some (.int .i64 0):=hI.keep 8 sI
   go_simp
   exact hK _ _ (hI.y mm0 rfl)
  ·obtain ⟨_,zt0,rfl⟩:=hI.v mm0 (hd 0)
   go_simp
   exact hK _ _ (hI.y mm1 rfl)
  ·obtain ⟨_,zt1,rfl⟩:=hI.v mm1 (hd 1)
   go_simp
   exact hK _ _ (hI.y mm2 rfl)
  ·obtain ⟨_,zg,rfl⟩:=hI.v mm2 (hd 2)
   refine sW (by simp [Region.wanted,yielded,zg]) ?_
   have zt : T[7]? = some (.pointer (some ⟨w3.heap.size,0,none⟩)):=hI.keep 7 sI
   have cc0:=hI.cell c1
   have cc1:=hI.cell c2
   have cc2:=hI.cell c3
   go_simp
   exact hK _ _ (hI.y mm3 rfl)
  ·obtain ⟨_,zg,rfl⟩:=hI.v mm2 (hd 2)
   refine sW (by simp [Region.wanted,yielded,zg]) ?_
   have zt : T[2]? = some (.int .i64 n):=hI.keep 2 sI
   go_simp
   exact hK _ _ (hI.y mm4 rfl)
  ·obtain ⟨_,zg,rfl⟩:=hI.v mm2 (hd 2)
   refine sW (by simp [Region.wanted,yielded,zg]) ?_
   obtain ⟨_,zt4,rfl⟩:=hI.v mm4 (hd 4)
   go_simp
   refine (midentityM n _ hn).mono ?_
   rintro e wa ⟨v,rfl,hv,hba⟩
   exact hK _ _ ((hI.world hba).y mm5 hv)
  ·obtain ⟨_,zg,rfl⟩:=hI.v mm2 (hd 2)
   refine sW (by simp [Region.wanted,yielded,zg]) ?_
   obtain ⟨_,zt3,rfl⟩:=hI.v mm3 (hd 3)
   obtain ⟨v5,zt5,h5⟩:=hI.v mm5 (hd 5)
   go_simp
   refine (mequalT _ _ n n _ _ _ (HM.out.below hI.bel) h5 (genM_fits _ _ _) (genM_fits _ _ _) hn HP.out).mono ?_
   rintro e wa ⟨v,rfl,hv,hba⟩
   exact hK _ _ ((hI.world hba).y mm6 hv)
  ·obtain ⟨_,zt2,rfl⟩:=hI.v mm2 (hd 2)
   obtain ⟨_,zt6,rfl⟩:=hI.v mm6 (hd 6)
   go_simp
   exact hK _ _ (hI.y mm7 rfl)
  ·obtain ⟨_,zt7,rfl⟩:=hI.v mm7 (hd 7)
   go_simp
   exact hK _ _ (hI.y mm8 rfl)
 intro T w5 hI
 obtain ⟨va0,q0,rfl⟩:=hI.v mm0 rfl
 obtain ⟨va1,q1,rfl⟩:=hI.v mm1 rfl
 obtain ⟨va2,q2,rfl⟩:=hI.v mm2 rfl
 obtain ⟨va3,q3,rfl⟩:=hI.v mm3 rfl
 obtain ⟨va4,q4,rfl⟩:=hI.v mm4 rfl
 obtain ⟨va5,q5,ha5⟩:=hI.v mm5 rfl
 replace ha5 : MatV w5 va5 (n) (n) (genM n n idf):=ha5
 obtain ⟨va6,q6,rfl⟩:=hI.v mm6 rfl
 obtain ⟨va7,q7,rfl⟩:=hI.v mm7 rfl
 obtain ⟨va8,q8,rfl⟩:=hI.v mm8 rfl
 have hT:=tmps_set [(41,.int .i64 0),(42,.bool true),(43,.bool true),(44,.agg #[.int .i64 n,.int .i64 n,.slice o c k]),(45,.int .i64 n),(46,va5),(47,.bool true),(48,.bool true),(6,.bool true)]
  (fun j hj=>hI.keep j (by simp only [List.forall_mem_cons] at hj ⊢; simp [hj]))
  (by simp only [List.forall_mem_cons]; simp [q0,q1,q2,q3,q4,q5,q6,q7,q8]) hI.size
 have hbw5:=hI.bel
 clear hI
 simp only [List.foldl_cons,List.foldl_nil,List.setIfInBounds_toArray,List.set_cons_zero,List.set_cons_succ,ptr] at hT
 subst hT
 clear q0 q1 q2 q3 q4 q5 q6 q7 q8
 have hB:=nx hB hbw5
 clear c1 c2 c3 c4 c5 c6
 go_wp2
 go_ret
 exact ⟨_,rfl,rfl,hB⟩
set_option maxHeartbeats 8000000 in
set_option maxRecDepth 20000 in
theorem scheck_true (av fv : Value) (R C : Nat) (A S U V W X : List (List Int)) (w : World) (ha : MatV w av R C A) (hf : SmithV w fv R C S U V W X) (hA : Fits R C A) (hSf : Fits R C S) (hU : Fits R R U) (hV : Fits R R V) (hW : Fits C C W) (hX : Fits C C X) (hR : R<=1000000) (hC : C<=1000000)
  (hIs : IsM2 R C S = true) (hI1 : genM R R (mulf U V R) = genM R R idf) (hI2 : genM C C (mulf W X C) = genM C C idf) (hSS : ∀r ∈ S,∀z ∈ r,Smd z) (hm1 : MulSm U V R R R) (hm2 : MulSm W X C C C)
  (hm3 : MulSm U A R R C) (hm4 : MulSm (genM R C (mulf U A R)) W R C C) (hP : genM R C (mulf (genM R C (mulf U A R)) W C) = S) :
  Calls Tryz.prog 21 #[av,fv] w fun e w'=>e = .returned (.bool true)/\Below w.heap.size w w':=by
 obtain ⟨s0,u0,v0,x0,y0,rfl,hs0,hu0,hv0,hx0,hy0⟩:=hf.ex
 obtain ⟨so,sn,sc,rfl,-⟩:=id hs0
 obtain ⟨uo,un,uc,rfl,-⟩:=id hu0
 obtain ⟨vo,vn,vc,rfl,-⟩:=id hv0
 obtain ⟨xo,xn,xc,rfl,-⟩:=id hx0
 obtain ⟨yo,yn,yc,rfl,-⟩:=id hy0
 obtain ⟨A1,rfl,hA1⟩:=id ha
 obtain ⟨ao,an,ac,rfl,-⟩:=id hA1
 have hs : MatV w (.agg #[.int .i64 R,.int .i64 C,.slice so sn sc]) R C S:=⟨_,rfl,hs0⟩
 have hu : MatV w (.agg #[.int .i64 R,.int .i64 R,.slice uo un uc]) R R U:=⟨_,rfl,hu0⟩
 have hv : MatV w (.agg #[.int .i64 R,.int .i64 R,.slice vo vn vc]) R R V:=⟨_,rfl,hv0⟩
 have hx : MatV w (.agg #[.int .i64 C,.int .i64 C,.slice xo xn xc]) C C W:=⟨_,rfl,hx0⟩
 have hy : MatV w (.agg #[.int .i64 C,.int .i64 C,.slice yo yn yc]) C C X:=⟨_,rfl,hy0⟩
 have HA:=Hk ha
 have HS:=Hk hs
 have HU:=Hk hu
 have HV:=Hk hv
 have HX:=Hk hx
 have HY:=Hk hy
 have K:=Hk (And.intro hA (And.intro hSf (And.intro hU (And.intro hV (And.intro hW hX)))))
 have KI:=Hk (And.intro hI1 (And.intro hI2 hP))
 have KM:=Hk (And.intro hm1 (And.intro hm2 (And.intro hm3 hm4)))
 have KS:=Hk hSS
 have hdv : decide (ValidM R C A) = true:=decide_eq_true hA.valid
 clear ha hf hs hu hv hx hy hs0 hu0 hv0 hx0 hy0 hA1 hA hSf hU hV hW hX hI1 hI2 hP hm1 hm2 hm3 hm4 hSS
 go_enter Tryz.func21,Tryz.ntmps21
 go_upto_region 1 with (fail)
 refine wp_world ?_
 intro W0 hW0
 obtain ⟨hB,bx,bf,hs0⟩:=world2 hW0
 obtain ⟨c1,c2,c3,c4,c5,c6⟩:=bx.three
 obtain ⟨⟨q0,q1,q2,q3,q4,q5,q6,q7,q8,q9,q10,q11,q12,q13,q14⟩,-⟩:=bf.all15
 clear hW0
 go_wp2_with fail
 refine (mvalid_any _ R C A W0 (HA.out.below hB)).mono ?_
 rintro e w1 ⟨rfl,hb1⟩
 rw [hdv]
 have hB:=nx hB hb1
 have bx:=bx.below hb1
 have bf:=bf.below hb1
 clear c1 c2 c3 c4 c5 c6 q0 q1 q2 q3 q4 q5 q6 q7 q8 q9 q10 q11 q12 q13 q14 hdv
 obtain ⟨c1,c2,c3,c4,c5,c6⟩:=bx.three
 obtain ⟨⟨q0,q1,q2,q3,q4,q5,q6,q7,q8,q9,q10,q11,q12,q13,q14⟩,-⟩:=bf.all15
 go_wp2_with fail
 refine (sis_any _ R C S w1 (HS.out.below hB) KS.out oM oM).mono ?_
 rintro e w2 ⟨rfl,hb2⟩
 rw [hIs]
 have hB:=nx hB hb2
 have bx:=bx.below hb2
 have bf:=bf.below hb2
 clear c1 c2 c3 c4 c5 c6 q0 q1 q2 q3 q4 q5 q6 q7 q8 q9 q10 q11 q12 q13 q14 hIs
 obtain ⟨c1,c2,c3,c4,c5,c6⟩:=bx.three
 obtain ⟨⟨q0,q1,q2,q3,q4,q5,q6,q7,q8,q9,q10,q11,q12,q13,q14⟩,-⟩:=bf.all15
 go_wp2_with fail
 refine (inverses_true _ _ R U V w2 (HU.out.below hB) (HV.out.below hB) K.out.2.2.1 K.out.2.2.2.1 hR KM.out.1 KI.out.1).mono ?_
 rintro e w3 ⟨_,rfl,rfl,hb3⟩
 have hB:=nx hB hb3
 have bx:=bx.below hb3
 have bf:=bf.below hb3
 clear c1 c2 c3 c4 c5 c6 q0 q1 q2 q3 q4 q5 q6 q7 q8 q9 q10 q11 q12 q13 q14
 obtain ⟨c1,c2,c3,c4,c5,c6⟩:=bx.three
 obtain ⟨⟨q0,q1,q2,q3,q4,q5,q6,q7,q8,q9,q10,q11,q12,q13,q14⟩,-⟩:=bf.all15
 go_wp2_with fail
 refine (inverses_true _ _ C W X w3 (HX.out.below hB) (HY.out.below hB) K.out.2.2.2.2.1 K.out.2.2.2.2.2 hC KM.out.2.1 KI.out.2.1).mono ?_
 rintro e w4 ⟨_,rfl,rfl,hb4⟩
 have hB:=nx hB hb4
 have bx:=bx.below hb4
 have bf:=bf.below hb4
 clear c1 c2 c3 c4 c5 c6 q0 q1 q2 q3 q4 q5 q6 q7 q8 q9 q10 q11 q12 q13 q14
 obtain ⟨c1,c2,c3,c4,c5,c6⟩:=bx.three
 obtain ⟨⟨q0,q1,q2,q3,q4,q5,q6,q7,q8,q9,q10,q11,q12,q13,q14⟩,-⟩:=bf.all15
 go_wp2_with fail
 refine (mmulM _ _ R R C U A w4 (HU.out.below hB) (HA.out.below hB) K.out.2.2.1 K.out.1 hR hR hC KM.out.2.2.1).mono ?_
 rintro e w5 ⟨o,c,k,rfl,hm,hb5⟩
 have hB:=nx hB hb5
 have bx:=bx.below hb5
 have bf:=bf.below hb5
 have HM:=Hk hm
 clear c1 c2 c3 c4 c5 c6 q0 q1 q2 q3 q4 q5 q6 q7 q8 q9 q10 q11 q12 q13 q14 hm
 obtain ⟨⟨q0,q1,q2,q3,q4,q5,q6,q7,q8,q9,q10,q11,q12,q13,q14⟩,-⟩:=bf.all15
 go_upto_region 6 with (fail)
 refine wp_world ?_
 intro W6 hW6
 obtain ⟨hB6,T7,hs6⟩:=world1 hW6
 have hB:=nx hB hB6
 have HM:=Hk (HM.out.below hB6)
 have bf:=bf.below hB6
 clear hW6 q0 q1 q2 q3 q4 q5 q6 q7 q8 q9 q10 q11 q12 q13 q14
 obtain ⟨c1,c2,c3,c4,c5,c6⟩:=T7.three
 obtain ⟨⟨q0,q1,q2,q3,q4,q5,q6,q7,q8,q9,q10,q11,q12,q13,q14⟩,-⟩:=bf.all15
 go_wp2_with fail
 refine (mmulM _ _ R C C (genM R C (mulf U A R)) W W6 HM.out (HX.out.below hB) (genM_fits _ _ _) K.out.2.2.2.2.1 hR hC hC KM.out.2.2.2).mono ?_
 rintro e w7 ⟨o2,k2,l2,rfl,hm2,hb7⟩
 have hB:=nx hB hb7
 have bf:=bf.below hb7
 have HM2:=Hk hm2
 clear c1 c2 c3 c4 c5 c6 q0 q1 q2 q3 q4 q5 q6 q7 q8 q9 q10 q11 q12 q13 q14 hm2
 go_upto_region 7 with (fail)
 refine wp_world ?_
 intro W8 hW8
 obtain ⟨hB8,T9,hs8⟩:=world1 hW8
 have hB:=nx hB hB8
 have HM2:=Hk (HM2.out.below hB8)
 have bf:=bf.below hB8
 clear hW8
 obtain ⟨c1,c2,c3,c4,c5,c6⟩:=T9.three
 obtain ⟨⟨q0,q1,q2,q3,q4,q5,q6,q7,q8,q9,q10,q11,q12,q13,q14⟩,-⟩:=bf.all15
 go_wp2_with fail
 refine (mequalT _ _ R C _ S W8 HM2.out (HS.out.below hB) (genM_fits _ _ _) K.out.2.1 hC KI.out.2.2).mono ?_
 rintro e w9 ⟨_,rfl,rfl,hb9⟩
 have hB:=nx hB hb9
 clear c1 c2 c3 c4 c5 c6 q0 q1 q2 q3 q4 q5 q6 q7 q8 q9 q10 q11 q12 q13 q14
 go_wp2
 go_ret
 exact ⟨rfl,hB⟩
set_option maxHeartbeats 4000000 in
set_option maxRecDepth 20000 in
theorem scheck_zero (av : Value) (R C : Nat) (A : List (List Int)) (w : World) (ha : MatV w av R C A) (hA : Fits R C A) (hR : 0 < R) :
  Calls Tryz.prog 21 #[av,.agg #[.int .i64 0,.int .i64 0,.slice none 0 0,.int .i64 0,.int .i64 0,.slice none 0 0,.int .i64 0,.int .i64 0,.slice none 0 0,.int .i64 0,.int .i64 0,.slice none 0 0,.int .i64 0,.int .i64 0,.slice none 0 0]] w fun e w'=>e = .returned (.bool false)/\Below w.heap.size w w':=by
 obtain ⟨A1,rfl,hA1⟩:=id ha
 obtain ⟨ao,an,ac,rfl,-⟩:=id hA1
 have HA:=Hk ha
 have hdv : decide (ValidM R C A) = true:=decide_eq_true hA.valid
 have hz : IsM2 0 0 [] = true:=by decide
 have hRn : ¬ (0 : Int) = R:=by omega
 clear ha hA1 hA
 go_enter Tryz.func21,Tryz.ntmps21
 go_upto_region 1 with (fail)
 refine wp_world ?_
 intro W0 hW0
 obtain ⟨hB,bx,bf,hs0⟩:=world2 hW0
 obtain ⟨c1,c2,c3,c4,c5,c6⟩:=bx.three
 obtain ⟨⟨q0,q1,q2,q3,q4,q5,q6,q7,q8,q9,q10,q11,q12,q13,q14⟩,-⟩:=bf.all15
 clear hW0
 go_wp2_with fail
 refine (mvalid_any _ R C A W0 (HA.out.below hB)).mono ?_
 rintro e w1 ⟨rfl,hb1⟩
 rw [hdv]
 have hB:=nx hB hb1
 have bx:=bx.below hb1
 have bf:=bf.below hb1
 clear c1 c2 c3 c4 c5 c6 q0 q1 q2 q3 q4 q5 q6 q7 q8 q9 q10 q11 q12 q13 q14 hdv
 obtain ⟨c1,c2,c3,c4,c5,c6⟩:=bx.three
 obtain ⟨⟨q0,q1,q2,q3,q4,q5,q6,q7,q8,q9,q10,q11,q12,q13,q14⟩,-⟩:=bf.all15
 go_wp2_with fail
 refine (sis_any _ 0 0 [] w1 ⟨_,rfl,RowsV.nil _⟩ (fun r hr=>by cases hr) oM oM).mono ?_
 rintro e w2 ⟨rfl,hb2⟩
 rw [hz]
 have hB:=nx hB hb2
 have bx:=bx.below hb2
 have bf:=bf.below hb2
 clear c1 c2 c3 c4 c5 c6 q0 q1 q2 q3 q4 q5 q6 q7 q8 q9 q10 q11 q12 q13 q14 hz
 obtain ⟨c1,c2,c3,c4,c5,c6⟩:=bx.three
 obtain ⟨⟨q0,q1,q2,q3,q4,q5,q6,q7,q8,q9,q10,q11,q12,q13,q14⟩,-⟩:=bf.all15
 go_wp2
 go_ret
 exact ⟨rfl,hB⟩
def I64V (w : World) (v : Value) (ls : List Int) : Prop:=
 ∃ao n cap,v = .slice ao n cap/\ls.length = n/\n<=cap/\cap<=9223372036854775807/\(∀z ∈ ls,-9223372036854775808<=z/\z<=9223372036854775807) ∧
  (ls ≠ []->∃(b : Nat) (cs : Array Value),ao = some ⟨b,0,none⟩/\w.heap[b]? = some (.cells cs 2 (0,0))/\∀(k : Nat) (z : Int),ls[k]? = some z->cs[k]? = some (.int .i64 z))
theorem I64V.below {w w' : World} {v : Value} {ls : List Int} (h : I64V w v ls) (hb : Below w.heap.size w w') : I64V w' v ls:=by
 obtain ⟨ao,n,cap,h1,h2,h3,h4,h5,h6⟩:=h
 refine ⟨ao,n,cap,h1,h2,h3,h4,h5,fun hn=>?_⟩
 obtain ⟨b,cs,e1,e2,e3⟩:=h6 hn
 exact ⟨b,cs,e1,(hb.block _ (Array.getElem?_eq_some_iff.1 e2).1).trans e2,e3⟩
theorem I64V.cell {w : World} {ao : Option Addr} {n cap : Nat} {ls : List Int} (h : I64V w (.slice ao n cap) ls) {k : Nat} (hk : k < ls.length) :
  ∃b z,ao = some ⟨b,0,none⟩/\b < w.heap.size/\ls[k]? = some z/\w.cell? ⟨b,k,none⟩ = some (.int .i64 z)/\-9223372036854775808<=z/\z<=9223372036854775807:=by
 obtain ⟨ao',n',cap',h1,h2,h3,h4,h5,h6⟩:=h
 injection h1 with e1 e2 e3
 subst e1
 obtain ⟨b,cs,e,hr,hc⟩:=h6 (by rintro rfl; simp at hk)
 have hz:=List.getElem?_eq_getElem hk
 have:=h5 _ (List.mem_of_getElem? hz)
 exact ⟨b,_,e,(Array.getElem?_eq_some_iff.1 hr).1,hz,(cell_of_row w b k cs _ _ hr).trans (hc k _ hz),this.1,this.2⟩
set_option maxHeartbeats 2000000 in
set_option maxRecDepth 20000 in
theorem list_any (v : Value) (ls : List Int) (w : World) (h : I64V w v ls) (hn : ls.length<=1000000) :
  Calls Tryz.prog 43 #[v] w fun e w'=>∃u,e = .returned u/\VecO w' w.heap.size u ls/\Below w.heap.size w w':=by
 obtain ⟨ao,n,cap,rfl,h2,h3,h4,-,-⟩:=id h
 have HL:=Lib.hid h2
 have hn1 : n<=1000000:=by omega
 clear h2 hn
 go_enter Tryz.func43,Tryz.ntmps43
 go_upto_block 0 with (fail)
 refine wp_world ?_
 intro W0 hW0
 obtain ⟨hB0,bA,hs0⟩:=world1 hW0
 have ho0 : VecO W0 w.heap.size (.slice (some ⟨w.heap.size,0,none⟩) 0 0) []:=⟨[],⟨rfl,.inr ⟨w.heap.size,0,#[],rfl,Nat.le_refl _,bA,Nat.le_refl _,by simp [maxLen],rfl,rfl⟩⟩,fun k z h=>by simp at h⟩
 go_wp2
 go_loopw [3,4] (fun u iv wr=>∃k : Nat,k<=n/\iv = .int .i64 k/\VecO wr w.heap.size u (ls.take k)/\Below w.heap.size w wr) (fun _ iv _=>n - (intOf iv).toNat)
 case atStart=>exact ⟨0,by omega,rfl,by rw [List.take_zero]; exact ho0,hB0⟩
 case round=>
  obtain ⟨k,hk,rfl,ho,hb⟩:=hrel
  by_cases hlt : k < n
  ·obtain ⟨b,z,rfl,hbl,hz,c1,z1,z2⟩:=(h.below hb).cell (k:=k) (by rw [HL.out]; exact hlt)
   have hd : Hid (ls.take (k + 1) = ls.take k ++ [z]):=by rw [List.take_add_one,hz]; exact Lib.hid rfl
   clear hz
   go_wp2_with fail
   refine (r1of_any z wr z1 z2).mono ?_
   rintro e w5 ⟨x,rfl,hx,hb5⟩
   obtain ⟨s,a,l,c,xs,rfl,hxx⟩:=id hx
   have HXX:=Lib.hid hxx
   clear hxx
   have ho5:=ho.below hb5
   have hb9:=nx hb hb5
   have hlk : (ls.take k).length = k:=by rw [List.length_take,HL.out]; omega
   go_wp2_with (at_builtin; refine appI rfl _ _ rfl w.heap.size u3 (ls.take k) rfl (ho5.below ((Below.refl _ _).alloc (Nat.le_refl _) _)) w5.heap.size 1 s a l c z rfl (Blk.new _ _ _) (hx.ext (lx ((Below.refl _ _).alloc (Nat.le_refl _) _))) (by rw [hlk]; omega) (by have:=hb9.size; simp; omega) ?_; intro v' w' hown hgr hxg)
   have hgr : World.grownBy (w5.alloc (.cells #[.bool s,.slice a l c] tI)) w' (Value.ownBlock u3):=hgr
   have hB9 : Below w.heap.size w w':=(hb9.alloc hb9.size _).grown hgr (by have:=hb9.size; simp; omega) (fun g hg=>ho.own g hg)
   go_roundw
   case rel=>exact ⟨k + 1,by omega,by simp,by rw [hd.out]; exact hown,hB9⟩
   case measure=>simp [intOf]; omega
  ·obtain rfl : k = n:=by omega
   rw [<-HL.out,List.take_length] at ho
   go_wp2
   go_ret
   exact ⟨_,rfl,ho,hb⟩
theorem idx_lt {i j R C : Nat} (hi : i < R) (hj : j < C) : i * C + j < R * C:=by
 have : (i + 1) * C<=R * C:=Nat.mul_le_mul_right _ hi
 rw [Nat.add_mul] at this
 omega
set_option maxHeartbeats 4000000 in
set_option maxRecDepth 20000 in
theorem ints_any (v : Value) (R C : Nat) (ls : List Int) (w : World) (h : I64V w v ls) (hl : ls.length = R * C) (hR : R<=1000) (hC : C<=1000) :
  Calls Tryz.prog 42 #[.int .i64 R,.int .i64 C,v] w (RetMat w R C (genM R C (fun i j=>ls.getD (i * C + j) 0))):=by
 obtain ⟨ao,n,cap,rfl,h2,h3,h4,-,-⟩:=id h
 have HL:=Lib.hid h2
 have hnR : n = R * C:=by omega
 have HN:=Lib.hid hnR
 obtain ⟨f,hf⟩ : ∃f : Nat->Nat->Int,(fun i j=>ls.getD (i * C + j) 0) = f:=⟨_,rfl⟩
 rw [hf]
 have HFE : HidS (∀i j,f i j = ls.getD (i * C + j) 0):=⟨fun i j=>by rw [<-hf]⟩
 clear hf h2 hl hnR
 go_enter Tryz.func42,Tryz.ntmps42
 go_upto_region 1 with (fail)
 refine wp_world ?_
 intro W0 hW0
 obtain ⟨hB0,br,hs0⟩:=world1 hW0
 go_wp2_with fail
 refine (r5new_any R C W0 oM oM).mono ?_
 rintro e w2 ⟨u,bs,rfl,⟨hbl,A2,rfl,ho⟩,hb2⟩
 obtain ⟨oo,on,oc,rfl,-,-,-,-⟩:=id ho.rows
 have hlts:=ho.lts
 go_upto_region 2 with (fail)
 refine wp_world ?_
 intro W3 hW3
 obtain ⟨hB3,T5,hs3⟩:=world1 hW3
 have br:=(br.below hb2).below hB3
 have ho:=ho.below hB3
 rw [upTo_start R C f] at ho
 have hBt:=nx (nx hB0 hb2) hB3
 have q2:=hb2.size
 clear hW3 hW0
 go_wp2
 go_loopw [8] (fun iv wr=>∃i : Nat,i<=R/\iv = .int .i64 i/\Below w.heap.size w wr/\Blk wr w.heap.size 28 #[.int .i64 0,.int .i64 0,.slice none 0 0]/\Blk wr w2.heap.size 28 #[.int .i64 R,.int .i64 C,.slice oo on oc]/\RowsO wr W0.heap.size (.slice oo on oc) C bs (genM R C (upTo f i 0))) (fun iv _=>R - (intOf iv).toNat)
 case atStart=>exact ⟨0,by omega,rfl,hBt,br,T5,ho⟩
 case round=>
  obtain ⟨i,hi,rfl,hb,br,T5,ho⟩:=hrel
  by_cases hlt : i < R
  ·go_wp2
   go_loopw [9] (fun jv wr=>∃j : Nat,j<=C/\jv = .int .i64 j/\Below w.heap.size w wr/\Blk wr w.heap.size 28 #[.int .i64 0,.int .i64 0,.slice none 0 0]/\Blk wr w2.heap.size 28 #[.int .i64 R,.int .i64 C,.slice oo on oc]/\RowsO wr W0.heap.size (.slice oo on oc) C bs (genM R C (upTo f i j))) (fun jv _=>C - (intOf jv).toNat)
   case atStart=>exact ⟨0,by omega,rfl,hb,br,T5,ho⟩
   case round=>
    obtain ⟨j,hj,rfl,hb,br,T5,ho⟩:=hrel
    by_cases hjc : j < C
    ·have hmn : i * C + j < n:=by rw [HN.out]; exact idx_lt hlt hjc
     have hn6 : n<=1000000:=by rw [HN.out]; exact Nat.le_trans (Nat.mul_le_mul hR hC) oM
     obtain ⟨m,hm⟩ : ∃m,i * C + j = m:=⟨_,rfl⟩
     have hmi : (i : Int) * (C : Int) + (j : Int) = (m : Int):=by rw [<-hm,Int.natCast_add,Int.natCast_mul]
     have hp0 : 0<=(i : Int) * (C : Int):=by omega
     have hp1 : (i : Int) * (C : Int)<=1000000:=by omega
     have hw1 : IntKind.i64.wrap ((i : Int) * (C : Int)) = (i : Int) * (C : Int):=IntWalk.i64_in _ oM
     have hw2 : IntKind.i64.wrap (m : Int) = (m : Int):=IntWalk.i64_in _ oM
     have hmlt : m < n:=by omega
     have hlt3 : (i : Int) * (C : Int) + (j : Int) < (n : Int):=by omega
     obtain ⟨b,z,rfl,hbl1,hz,c1,z1,z2⟩:=(h.below hb).cell (k:=m) (by rw [HL.out]; exact hmlt)
     have hent : Hid (f i j = z):=by rw [HFE.out,hm,getD_of hz]; exact Lib.hid rfl
     obtain ⟨g,bo,rfl,hg,hbo,hbo2,o1,ho3⟩:=ho.at_ (i:=i) oM
     obtain ⟨f1,f2,f3,f4,f5,f6⟩:=T5.three
     have hio : i < on:=by omega
     have HO3:=Lib.hid ho3
     have HM:=Lib.hid hm
     clear ho3 hm hz
     have lt5:=T5.lt
     go_upto_region 8 with (fail)
     refine wp_region_headed 16 rfl (RI wr (wr.heap.size) _ 45
       [⟨0,33,fun _ v=>v = .pointer (some ⟨w2.heap.size,2,none⟩)⟩,⟨1,34,fun _ v=>v = .slice (some ⟨g,0,none⟩) on oc⟩,⟨2,35,fun _ v=>v = .int .i64 i⟩,⟨3,36,fun _ v=>v = .pointer (some ⟨g,i,none⟩)⟩,⟨4,37,fun _ v=>v = .slice (some ⟨bo,0,none⟩) C C⟩,⟨5,38,fun _ v=>v = .int .i64 j⟩,⟨6,39,fun _ v=>v = .slice (some ⟨b,0,none⟩) n cap⟩,⟨7,40,fun _ v=>v = .int .i64 i⟩,⟨8,41,fun _ v=>v = .int .i64 C⟩,⟨9,42,fun _ v=>v = .int .i64 ((i : Int) * (C : Int))⟩,⟨10,43,fun _ v=>v = .int .i64 j⟩,⟨11,44,fun _ v=>v = .int .i64 m⟩,⟨12,45,fun _ v=>v = .pointer (some ⟨b,m,none⟩)⟩,⟨13,46,fun _ v=>v = .int .i64 z⟩,⟨14,47,fun w v=>IntV w v (z)⟩,⟨15,48,fun _ v=>v = .pointer (some ⟨bo,j * 2,none⟩)⟩]
       [] []) kR RI.start ?fin1 ?steps1
     case steps1=>
      refine ⟨?_,?_,?_,?_,?_,?_,?_,?_,?_,?_,?_,?_,?_,?_,?_,?_,trivial⟩ <;> (intro L T wS hL hd hcl hI K hK; try refine sW rfl ?_)
      ·have zt : T[7]? = some (.pointer (some ⟨w2.heap.size,0,none⟩)):=hI.keep 7 sI sI
       go_simp
       exact hK _ _ (hI.y mm0 rfl)
      ·obtain ⟨v0,zt0,rfl⟩:=hI.v mm0 (hd 0)
       have cc0:=hI.cell f3 oM nom
       go_simp
       exact hK _ _ (hI.y mm1 rfl)
      ·have zt : T[8]? = some (.int .i64 i):=hI.keep 8 sI sI
       go_simp
       exact hK _ _ (hI.y mm2 rfl)
      ·obtain ⟨v1,zt1,rfl⟩:=hI.v mm1 (hd 1)
       obtain ⟨v2,zt2,rfl⟩:=hI.v mm2 (hd 2)
       go_simp
       exact hK _ _ (hI.y mm3 rfl)
      ·obtain ⟨v3,zt3,rfl⟩:=hI.v mm3 (hd 3)
       have cc0:=hI.cell o1 oM nom
       go_simp
       exact hK _ _ (hI.y mm4 rfl)
      ·have zt : T[9]? = some (.int .i64 j):=hI.keep 9 sI sI
       go_simp
       exact hK _ _ (hI.y mm5 rfl)
      ·have zt : T[2]? = some (.slice (some ⟨b,0,none⟩) n cap):=hI.keep 2 sI sI
       go_simp
       exact hK _ _ (hI.y mm6 rfl)
      ·have zt : T[8]? = some (.int .i64 i):=hI.keep 8 sI sI
       go_simp
       exact hK _ _ (hI.y mm7 rfl)
      ·have zt : T[1]? = some (.int .i64 C):=hI.keep 1 sI sI
       go_simp
       exact hK _ _ (hI.y mm8 rfl)
      ·obtain ⟨v7,zt7,rfl⟩:=hI.v mm7 (hd 7)
       obtain ⟨v8,zt8,rfl⟩:=hI.v mm8 (hd 8)
       go_simp
       exact hK _ _ (hI.y mm9 rfl)
      ·have zt : T[9]? = some (.int .i64 j):=hI.keep 9 sI sI
       go_simp
       exact hK _ _ (hI.y mm10 rfl)
      ·obtain ⟨v9,zt9,rfl⟩:=hI.v mm9 (hd 9)
       obtain ⟨v10,zt10,rfl⟩:=hI.v mm10 (hd 10)
       go_simp
       exact hK _ _ (hI.y mm11 rfl)
      ·obtain ⟨v6,zt6,rfl⟩:=hI.v mm6 (hd 6)
       obtain ⟨v11,zt11,rfl⟩:=hI.v mm11 (hd 11)
       go_simp
       exact hK _ _ (hI.y mm12 rfl)
      ·obtain ⟨v12,zt12,rfl⟩:=hI.v mm12 (hd 12)
       have cc0:=hI.cell c1 oM nom
       go_simp
       exact hK _ _ (hI.y mm13 rfl)
      ·obtain ⟨v13,zt13,rfl⟩:=hI.v mm13 (hd 13)
       go_simp
       refine (r1of_any z _ z1 z2).mono ?_
       rintro e wa ⟨v,rfl,hv,hba⟩
       exact hK _ _ ((hI.world hba).y mm14 hv)
      ·obtain ⟨v4,zt4,rfl⟩:=hI.v mm4 (hd 4)
       obtain ⟨v5,zt5,rfl⟩:=hI.v mm5 (hd 5)
       go_simp
       exact hK _ _ (hI.y mm15 rfl)
     intro T w9 hI
     obtain ⟨va0,q0,rfl⟩:=hI.v mm0 rfl
     obtain ⟨va1,q1,rfl⟩:=hI.v mm1 rfl
     obtain ⟨va2,q2,rfl⟩:=hI.v mm2 rfl
     obtain ⟨va3,q3,rfl⟩:=hI.v mm3 rfl
     obtain ⟨va4,q4,rfl⟩:=hI.v mm4 rfl
     obtain ⟨va5,q5,rfl⟩:=hI.v mm5 rfl
     obtain ⟨va6,q6,rfl⟩:=hI.v mm6 rfl
     obtain ⟨va7,q7,rfl⟩:=hI.v mm7 rfl
     obtain ⟨va8,q8,rfl⟩:=hI.v mm8 rfl
     obtain ⟨va9,q9,rfl⟩:=hI.v mm9 rfl
     obtain ⟨va10,q10,rfl⟩:=hI.v mm10 rfl
     obtain ⟨va11,q11,rfl⟩:=hI.v mm11 rfl
     obtain ⟨va12,q12,rfl⟩:=hI.v mm12 rfl
     obtain ⟨va13,q13,rfl⟩:=hI.v mm13 rfl
     obtain ⟨va14,q14,ha14⟩:=hI.v mm14 rfl
     replace ha14 : IntV w9 va14 (z):=ha14
     obtain ⟨va15,q15,rfl⟩:=hI.v mm15 rfl
     have hT:=tmps_set [(33,.pointer (some ⟨w2.heap.size,2,none⟩)),(34,.slice (some ⟨g,0,none⟩) on oc),(35,.int .i64 i),(36,.pointer (some ⟨g,i,none⟩)),(37,.slice (some ⟨bo,0,none⟩) C C),(38,.int .i64 j),(39,.slice (some ⟨b,0,none⟩) n cap),(40,.int .i64 i),(41,.int .i64 C),(42,.int .i64 ((i : Int) * (C : Int))),(43,.int .i64 j),(44,.int .i64 m),(45,.pointer (some ⟨b,m,none⟩)),(46,.int .i64 z),(47,va14),(48,.pointer (some ⟨bo,j * 2,none⟩))]
      (fun j hj=>hI.keep j (by simp only [List.forall_mem_cons] at hj ⊢; simp [hj]) (by simp only [List.forall_mem_cons] at hj ⊢; simp [hj]))
      (by simp only [List.forall_mem_cons]; simp [q0,q1,q2,q3,q4,q5,q6,q7,q8,q9,q10,q11,q12,q13,q14,q15]) hI.size
     have hlw9:=hI.lext
     have hbw9:=hI.bel (wr.heap.size) oM nom
     have holdw9:=hI.old
     clear hI
     simp only [List.foldl_cons,List.foldl_nil,List.setIfInBounds_toArray,List.set_cons_zero,List.set_cons_succ,ptr] at hT
     subst hT
     clear q0 q1 q2 q3 q4 q5 q6 q7 q8 q9 q10 q11 q12 q13 q14 q15
     simp only [List.drop_succ_cons,List.drop_zero]
     obtain ⟨pn,pa,pl,pc,px,rfl,hpx⟩:=id ha14
     have HPX:=Lib.hid hpx
     clear hpx
     have ho9:=ho.below hbw9
     obtain ⟨sn,sa,sl,sc,y1,y2,y3,y4,-⟩:=ho9.cellAt hbo hjc
     have hbolt:=hlts i bo hbo
     have hset:=ho9.set hbo hjc ha14
     clear hw1 hw2 hmi hp0 hp1 hlt3
     go_wp2
     go_roundw
     case rel=>
      rw [<-hent.out,upTo_step hlt hjc] at hset
      exact ⟨j + 1,by omega,by simp,bset (bset (nx hb hbw9) oM _ _) oM _ _,(set2_old _ _ _ _ _ _ _ oM).trans (br.below hbw9),(set2_old _ _ _ _ _ _ _ oM).trans (T5.below hbw9),hset.1⟩
     case measure=>simp [intOf]; omega
    ·obtain rfl : j = C:=by omega
     rw [upTo_row] at ho
     go_wp2
     go_roundw
     case rel=>exact ⟨i + 1,by omega,by simp,hb,br,T5,ho⟩
     case measure=>simp [intOf]; omega
  ·obtain rfl : i = R:=by omega
   rw [upTo_end] at ho
   obtain ⟨f1,f2,f3,f4,f5,f6⟩:=T5.three
   obtain ⟨r1,r2,r3,r4,r5,r6⟩:=br.three
   have q1:=hB0.size
   go_wp2
   refine bodyPost_mat rfl rfl rfl (br.put3 _ _ _) ⟨_,bs,rfl,⟨hbl,_,rfl,?_⟩,bset (bset (bset hb oM 0 _) oM 1 _) oM 2 _⟩
   exact (ho.keep (fun k hk=>set3_old _ _ k _ _ _ oM) (br.lext3 dE _ _ _)).mono q1
set_option maxHeartbeats 1000000 in
set_option maxRecDepth 20000 in
theorem r13same_any (v1 v2 : Value) (xs ys : List Int) (w : World) (h1 : VecV w v1 xs) (h2 : VecV w v2 ys) :
  Calls Tryz.prog 17 #[v1,v2] w fun e w'=>e = .returned (.bool (decide (xs = ys)))/\Below w.heap.size w w':=by
 obtain ⟨ao,n,cap,rfl,-⟩:=id h1
 obtain ⟨bo,m,bcap,rfl,-⟩:=id h2
 obtain ⟨ans,ha⟩ : ∃ans,decide (xs = ys) = ans:=⟨_,rfl⟩
 have hc : ∀W,VecV W (.slice ao n cap) xs->VecV W (.slice bo m bcap) ys->Calls Tryz.prog 45 #[.slice ao n cap,.slice bo m bcap] W fun e w'=>e = .returned (.bool ans)/\Below W.heap.size W w':=fun W k1 k2=>by
  have:=samevec_any _ _ xs ys W k1 k2
  rwa [ha] at this
 rw [ha]
 clear ha
 go_enter Tryz.func17,Tryz.ntmps17
 go_wp2_with fail
 refine (hc w h1 h2).mono ?_
 rintro e w1 ⟨rfl,hb⟩
 go_wp2
 go_ret
 exact ⟨rfl,hb⟩

theorem million : BSd 1000000:=⟨fun z hz=>⟨Nat.lt_of_lt_of_le (Nat.lt_trans hz (by
 have h1:=B32_pow_lt 0 1 oM
 show 1000000 < B32 ^ 1
 decide)) (pow_mono (by rw [DLIM_eq]; omega))⟩⟩
instance (B R C Cu Cw : Nat) (z : W5) : Decidable (okW B R C Cu Cw z):=by unfold okW; infer_instance
theorem DivR.same {n : Nat} {z y : W5} (h : DivR n z y) (hd : ∀i j,i < j->j < n->z.s i i ∣ z.s j j) : y = z:=by
 induction h with
 | refl=>rfl
 | step y i j s t h1 h2 h3 h4 h5 ih=>
  have e:=ih
  subst e
  exact absurd (hd i j h2 h3) h4
def lessL (B : Nat) (M : List (List Int)) : Bool:=M.all fun r=>r.all fun z=>decide (z.natAbs < B)
theorem lessL_smd {B : Nat} (hB : BSd B) {M : List (List Int)} (h : lessL B M = true) : ∀r ∈ M,∀z ∈ r,Smd z:=fun r hr z hz=>
 hB.smd z (of_decide_eq_true (List.all_eq_true.1 (List.all_eq_true.1 h r hr) z hz))
def MulB (B : Nat) (X Y : List (List Int)) (R m C : Nat) : Prop:=∀i,i < R->∀j,j < C->∀k,k < m->(ent X i k).natAbs < B/\(ent Y k j).natAbs < B/\(ent X i k * ent Y k j).natAbs < B/\(mulf X Y k i j).natAbs < B
instance (B : Nat) (X Y : List (List Int)) (R m C : Nat) : Decidable (MulB B X Y R m C):=by unfold MulB; infer_instance
theorem MulB.sm {B : Nat} (hB : BSm B) {X Y : List (List Int)} {R m C : Nat} (h : MulB B X Y R m C) : MulSm X Y R m C:=fun i hi j hj k hk=>
 ⟨hB.sm _ (h i hi j hj k hk).1,hB.sm _ (h i hi j hj k hk).2.1,hB.sm _ (h i hi j hj k hk).2.2.1,hB.sm _ (h i hi j hj k hk).2.2.2⟩
theorem form_column (v : Value) (w : World) (h : MatV w v (2 : Nat) (1 : Nat) [[4],[6]]) :
  Calls Tryz.prog 15 #[v] w fun e w'=>∃f,e = .returned f/\SmithV w' f 2 1 [[2],[0]] [[-1,1],[3,-2]] [[2,1],[3,1]] [[1]] [[1]]/\Below w.heap.size w w':=by
 have hr : (runGo 1000000 2 1 2 1 20 5 ⟨ent [[4],[6]],idf,idf,idf,idf⟩).map (fun y=>(genM 2 1 y.s,genM 2 2 y.u,genM 2 2 (trF y.v),genM 1 1 (trF y.w),genM 1 1 y.x,decide (okW 1000000 2 1 2 1 y))) = some ([[2],[0]],[[-1,1],[3,-2]],[[2,1],[3,1]],[[1]],[[1]],true):=by kernel_rfl
 obtain ⟨y,hy,he⟩:=Option.map_eq_some_iff.1 hr
 simp only [Prod.mk.injEq] at he
 obtain ⟨e1,e2,e3,e4,e5,e6⟩:=he
 have hs : ∀y',DivR (min 2 1) y y'->y' = y:=fun y' hd=>hd.same (fun i j h1 h2=>by omega)
 refine (form_any million v [[4],[6]] 2 1 w h ⟨rfl,by decide⟩ oM oM dE hy (fun y' _ i j h1 h2=>by omega) (fun y' hd=>by rw [hs y' hd]; exact of_decide_eq_true e6)).mono ?_
 rintro e w' ⟨f,y',rfl,hd,-,hf,hb⟩
 obtain rfl:=hs y' hd
 rw [e1,e2,e3,e4,e5] at hf
 exact ⟨f,rfl,hf,hb⟩
theorem inv_plain (v : Value) (R C : Nat) (M : List (List Int)) (l : List Int) (w : World) (h : MatV w v R C M) (hF : Fits R C M) (hR0 : 0 < R) (hR : R<=1000000) (hC : C<=1000000)
  (hr : (runGo 1000000 R C 0 0 20 5 ⟨ent M,zf,zf,zf,zf⟩).map (fun y=>(decide (∀j,j < min R C->∀i,i < j->y.s i i ∣ y.s j j),decide (∀i,i < min R C->(y.s i i).natAbs < 1000000),nzL (genV (min R C) (fun i=>divI (min R C) 0 y.s i i)))) = some (true,true,l)) (hok : okW 1000000 R C 0 0 ⟨ent M,zf,zf,zf,zf⟩) :
  Calls Tryz.prog 18 #[v] w fun e w'=>∃v,e = .returned v/\VecO w' w.heap.size v l/\Below w.heap.size w w':=by
 obtain ⟨y,hy,he⟩:=Option.map_eq_some_iff.1 hr
 simp only [Prod.mk.injEq] at he
 obtain ⟨e1,e2,e3⟩:=he
 have hdd:=of_decide_eq_true e1
 have hs : ∀y',DivR (min R C) y y'->y' = y:=fun y' hd=>hd.same (fun i j h1 h2=>hdd j h2 i h1)
 rw [<-e3]
 exact invariants_any million v M R C w h hF hR0 hR hC hok hy (fun y' hd i j h1 h2 hn=>absurd (by rw [hs y' hd]; exact hdd j h2 i h1) hn) (fun y' hd i hi=>by rw [hs y' hd]; exact of_decide_eq_true e2 i hi)
theorem inv_23 (v : Value) (w : World) (h : MatV w v (2 : Nat) (2 : Nat) [[2,0],[0,3]]) :
  Calls Tryz.prog 18 #[v] w fun e w'=>∃v,e = .returned v/\VecO w' w.heap.size v [1,6]/\Below w.heap.size w w':=by
 have hr : (runGo 1000000 2 2 0 0 20 5 ⟨ent [[2,0],[0,3]],zf,zf,zf,zf⟩).map (fun y=>(y.s 0 0,y.s 1 1,nzL (genV 2 (fun i=>divI 2 0 y.s i i)))) = some (2,3,[1,6]):=by kernel_rfl
 obtain ⟨y,hy,he⟩:=Option.map_eq_some_iff.1 hr
 simp only [Prod.mk.injEq] at he
 obtain ⟨e1,e2,e3⟩:=he
 have hs : ∀y',DivR 2 y y'->(y'.s 0 0 = 2/\y'.s 1 1 = 3) ∨ (y'.s 0 0 = 1/\y'.s 1 1 = 6):=by
  intro y' hd0
  obtain ⟨n,hn,hd⟩ : ∃n,n = 2/\DivR n y y':=⟨2,rfl,hd0⟩
  clear hr e3 hy hd0
  induction hd with
  | refl=>exact .inl ⟨e1,e2⟩
  | step y i j s t h1 h2 h3 h4 h5 ih=>
   obtain rfl : i = 0:=by omega
   obtain rfl : j = 1:=by omega
   rcases ih with ⟨a,b⟩ | ⟨a,b⟩
   ·refine .inr ⟨?_,?_⟩
    ·show divS y.s 0 1 0 0 = 1
     unfold divS
     rw [a,b]
     decide
    ·show divS y.s 0 1 1 1 = 6
     unfold divS
     rw [a,b]
     decide
   ·rw [a,b] at h4
    exact absurd ⟨6,rfl⟩ h4
 have hmin : min 2 2 = 2:=rfl
 refine (invariants_any million v [[2,0],[0,3]] 2 2 w h ⟨rfl,by decide⟩ oM oM oM dE hy ?_ ?_).mono fun e w' hv=>?_
 ·intro y' hd i j h1 h2 h3
  obtain rfl : i = 0:=by omega
  obtain rfl : j = 1:=by omega
  rcases hs y' hd with ⟨a,b⟩ | ⟨a,b⟩
  ·refine ⟨by rw [a,b]; decide,by rw [a,b]; decide,?_⟩
   intro g u v s t hg hu hv ⟨hb1,hb2,hb3⟩
   rw [a,b] at hg
   rw [a] at hu hb3
   rw [b] at hv hb2
   have hg1 : g = 1:=hg
   subst hg1
   have hu2 : u = 2:=hu
   have hv3 : v = 3:=hv
   subst hu2
   subst hv3
   have hs3 : s.natAbs<=3:=hb2
   have ht2 : t.natAbs<=2:=hb3
   rw [a]
   refine ⟨by omega,by omega,⟨by omega,by omega,by omega,by omega,fun t ht=>by omega⟩,⟨by omega,by omega,by omega,by omega,fun t ht=>by omega⟩,⟨by omega,by omega,by omega,by omega,fun t ht=>by omega⟩,⟨by omega,by omega,by omega,by omega,fun t ht=>by omega⟩⟩
  ·rw [a,b] at h3
   exact absurd ⟨6,rfl⟩ h3
 ·intro y' hd i hi
  rcases hs y' hd with ⟨a,b⟩ | ⟨a,b⟩
  ·match i,hi with
   | 0,_=>rw [a]; decide
   | 1,_=>rw [b]; decide
  ·match i,hi with
   | 0,_=>rw [a]; decide
   | 1,_=>rw [b]; decide
 ·rw [hmin,e3] at hv
  exact hv
theorem BB_pow : BB ^ 3 * 16<=B32 ^ DLIM:=by
 have e : (B32 : Nat) = 2 ^ 32:=by decide
 have h1 : BB ^ 3 * 16 = 2 ^ (EB * 3 + 4):=by unfold BB; rw [<-Nat.pow_mul,Nat.pow_add]
 have h2 : 2 ^ (EB * 3 + 4)<=(2 ^ 32) ^ EB:=by
  rw [<-Nat.pow_mul]
  exact le_pow2 oM (by rw [EB_eq]; omega)
 rw [h1]
 refine Nat.le_trans h2 ?_
 rw [<-e]
 exact pow_mono (by rw [EB_eq,DLIM_eq]; omega)
theorem BB_pos : 1<=BB:=Nat.pow_pos oM
theorem BB_97 : 2 ^ 100<=BB:=le_pow2 oM (by rw [EB_eq]; omega)
theorem BB3_smd {z : Int} (h : z.natAbs < BB ^ 3 * 16) : Smd z:=⟨Nat.lt_of_lt_of_le h BB_pow⟩
theorem BB_le3 {k n : Nat} (hk : k<=3) (hn : n<=16) : BB ^ k * n<=BB ^ 3 * 16:=Nat.mul_le_mul (le_pow2 BB_pos hk) hn
theorem BB_smd {z : Int} (h : z.natAbs < BB) : Smd z:=BB3_smd (Nat.lt_of_lt_of_le h (by have:=BB_le3 (k:=1) (n:=1) oM oM; simpa using this))
theorem BB_bsd : BSd BB:=⟨fun z h=>BB_smd h⟩
theorem small_smd {z : Int} (h : z.natAbs<=2 ^ 99) : Smd z:=BB_smd (Nat.lt_of_lt_of_le (Nat.lt_of_le_of_lt h dE) BB_97)
theorem Inv.small {R C r h : Nat} {A F : Nat->Nat->Int} (hI : Inv R C r A F) (hR : R<=4) (h1 : 1<=h) (hA : leM h R C A) : (prodN r (fun i=>F i i)).natAbs<=24 * h ^ 4:=by
 have hr : r<=min R C:=hI.dg.le
 have hp : 0 < prodN r (fun i=>F i i):=prodN_pos fun i hi=>hI.dg.pos i hi
 have hm:=hI.minors hr
 have hne : ∃σ τ : Nat->Nat,(∀a,a < r->σ a < R)/\(∀a,a < r->τ a < C)/\det r (fun a b=>A (σ a) (τ b)) ≠ 0:=by
  refine Classical.byContradiction fun hn=>?_
  have : MinD R C r A 0:=fun σ τ hσ hτ=>by
   have : det r (fun a b=>A (σ a) (τ b)) = 0:=Classical.byContradiction fun h0=>hn ⟨σ,τ,hσ,hτ,h0⟩
   rw [this]
   exact Int.dvd_refl 0
  have:=Int.zero_dvd.1 (hI.gen hr this)
  omega
 obtain ⟨σ,τ,hσ,hτ,h0⟩:=hne
 refine Nat.le_trans (Nat.le_of_dvd oM (Int.natAbs_dvd_natAbs.2 (hm σ τ hσ hτ))) ?_
 exact det_le (F:=fun a b=>A (σ a) (τ b)) oM h1 fun a ha b hb=>hA _ (hσ a ha) _ (hτ b hb)
theorem filter_all {n : Nat} {f : Nat->Int} (hp : ∀i,i < n->f i ≠ 0) : nzL (genV n f) = genV n f:=by
 unfold nzL genV
 rw [List.filter_eq_self]
 intro z hz
 obtain ⟨i,hi,rfl⟩:=List.mem_map.1 hz
 exact decide_eq_true (hp i (List.mem_range.1 hi))
theorem filter_gen {n r : Nat} {f : Nat->Int} (hr : r<=n) (hp : ∀i,i < r->f i ≠ 0) (hz : ∀i,r<=i->i < n->f i = 0) : nzL (genV n f) = genV r f:=by
 induction n with
 | zero=>
  obtain rfl : r = 0:=by omega
  rfl
 | succ n ih=>
  have e : genV (n + 1) f = genV n f ++ [f n]:=by unfold genV; rw [List.range_succ,List.map_append]; rfl
  rw [e,nzL_snoc]
  by_cases h : r = n + 1
  ·subst h
   rw [if_pos (hp n oM),filter_all (fun i hi=>hp i oM),e]
  ·rw [if_neg (by rw [hz n oM oM]; simp),ih oM fun i h1 h2=>hz i h1 oM]
theorem Inv.empty (C : Nat) (A : Nat->Nat->Int) : Inv 0 C 0 A A:=
 ⟨⟨fun a ha=>by omega,fun i hi=>by omega,fun i _ hi=>by omega,by omega⟩,fun a b _ h1 h2=>by omega,⟨idf,idf,fun a ha=>by omega⟩,⟨idf,idf,fun a ha=>by omega⟩⟩
theorem inv_all (v : Value) (M : List (List Int)) (R C : Nat) (w : World) (h : MatV w v R C M) (hF : Fits R C M) (hR : R<=4) (hC : C<=4) (hA : leM 1048576 R C (ent M)) :
  Calls Tryz.prog 18 #[v] w fun e w'=>∃v F r,e = .returned v/\Inv R C r (ent M) F/\VecO w' w.heap.size v (genV r fun i=>F i i)/\Below w.heap.size w w':=by
 rcases Nat.eq_zero_or_pos R with h0 | h0
 ·subst h0
  refine (invariants_none v C M w h hF).mono ?_
  rintro e w' ⟨v,rfl,h1,h2⟩
  exact ⟨v,ent M,0,rfl,Inv.empty C _,h1,h2⟩
 ·have z0 : ∀n,leM 1 n 0 zf:=fun n a _ b hb=>by omega
  obtain ⟨f,rr,L,r,h1,h2,h3,h4,h5⟩:=smith_all (z:=⟨ent M,zf,zf,zf,zf⟩) (Cu:=0) (Cw:=0) hR hC hA (z0 R) (z0 R) (z0 C) (z0 C)
  have hr:=Rel.rnds h2 (Rel.start R C (ent M))
  have hs : (rnds L ⟨ent M,idf,idf,idf,idf⟩).s = (rnds L ⟨ent M,zf,zf,zf,zf⟩).s:=rnds_s L rfl
  have hRS : RelS R C r (ent M) (rnds L ⟨ent M,zf,zf,zf,zf⟩).s:=by
   rw [<-hs] at h4 ⊢
   exact ⟨h4,(rnds L ⟨ent M,idf,idf,idf,idf⟩).u,(rnds L ⟨ent M,idf,idf,idf,idf⟩).v,(rnds L ⟨ent M,idf,idf,idf,idf⟩).w,(rnds L ⟨ent M,idf,idf,idf,idf⟩).x,hr⟩
  have hRS2:=RelS.divI (min R C) 0 _ oM hRS
  have hI:=Inv.of_relS hRS2 (divI_chain (n:=min R C) (min R C) 0 _ oM)
  refine (invariants_any BB_bsd v M R C w h hF h0 oM oM h3 h1 (fun y' hy i j h6 h7 h8=>(h5 y' hy).2 i j h6 h7 h8) (fun y' hy i hi=>(h5 y' hy).1.1 i oM i oM)).mono ?_
  rintro e w' ⟨v,rfl,k1,k2⟩
  rw [filter_gen hI.dg.le (fun i hi=>by have:=hI.dg.pos i hi; omega) (fun i a b=>hI.dg.zero i a b)] at k1
  exact ⟨v,_,r,rfl,hI,k1,k2⟩
theorem idf_le (n m : Nat) : leM 1 n m idf:=fun a _ b _=>by unfold idf; split <;> omega
theorem form_all (v : Value) (M : List (List Int)) (R C : Nat) (w : World) (h : MatV w v R C M) (hF : Fits R C M) (hR : R<=4) (hC : C<=4) (hA : leM 1048576 R C (ent M)) :
  Calls Tryz.prog 15 #[v] w fun e w'=>∃v y r,e = .returned v/\Rel R C (ent M) y/\Inv R C r (ent M) y.s/\okW BB R C R C y/\SmithV w' v R C (genM R C y.s) (genM R R y.u) (genM R R (trF y.v)) (genM C C (trF y.w)) (genM C C y.x)/\Below w.heap.size w w':=by
 obtain ⟨f,rr,L,r,h1,h2,h3,h4,h5⟩:=smith_all (z:=⟨ent M,idf,idf,idf,idf⟩) (Cu:=R) (Cw:=C) hR hC hA (idf_le R R) (idf_le R R) (idf_le C C) (idf_le C C)
 have hr:=Rel.rnds h2 (Rel.start R C (ent M))
 refine (form_any BB_bsd v M R C w h hF oM oM h3 h1 (fun y' hy i j h6 h7 h8=>(h5 y' hy).2 i j h6 h7 h8) (fun y' hy=>(h5 y' hy).1)).mono ?_
 rintro e w' ⟨v,y,rfl,k1,k2,k3,k4⟩
 obtain ⟨q1,q2⟩:=Rel.divR k1 h4 hr
 have hc : Chn 0 (min R C) y.s:=by
  rw [k2]
  exact divI_chain (n:=min R C) (min R C) 0 _ oM
 exact ⟨v,y,r,rfl,q2,Inv.of_rel q2 q1 hc,(h5 y k1).1,k3,k4⟩
theorem dg_isM2 {R C r : Nat} {F : Nat->Nat->Int} (hd : Dg R C r F) (hc : Chn 0 (min R C) F) : IsM2 R C (genM R C F) = true:=by
 unfold IsM2
 rw [decide_eq_true (genM_fits R C F).valid,Bool.true_and,Int.toNat_natCast,Int.toNat_natCast,diagL_genM oM oM,Bool.and_eq_true]
 constructor
 ·have : ∀d i,i + d = R->diagGo i ((genM R C F).drop i) = true:=by
   intro d
   induction d with
   | zero=>
    intro i hi
    rw [List.drop_eq_nil_of_le (by rw [(genM_fits R C F).1]; omega)]
    rfl
   | succ d ih=>
    intro i hi
    have e1 : (genM R C F)[i]? = some (genV C (F i)):=by simp [genM,genV,show i < R by omega]
    rw [drop_cons e1,diagGo_step,ih (i + 1) oM]
    intro t ht hne
    rw [genV_length] at ht
    rw [getD_of (genV_get ht)]
    exact hd.off i oM t ht oM
  exact this R 0 oM
 ·have : ∀d i (last : Int),i + d = min R C->(i < min R C->last ∣ F i i)->chainGo last ((genV (min R C) fun i=>F i i).drop i) = true:=by
   intro d
   induction d with
   | zero=>
    intro i last hi _
    rw [List.drop_eq_nil_of_le (by rw [genV_length]; omega)]
    rfl
   | succ d ih=>
    intro i last hi hl
    rw [drop_cons (genV_get oM),chainGo_step (hd.nonneg oM) (hl oM)]
    exact ih (i + 1) _ oM fun h=>hc i (i + 1) (Nat.zero_le _) oM h
  exact this (min R C) 0 1 oM fun _=>Int.one_dvd _
def I8V (w : World) (v : Value) (ls : List Int) : Prop:=
 ∃ao n cap,v = .slice ao n cap/\ls.length = n/\n<=cap/\cap<=9223372036854775807/\(∀z ∈ ls,-128<=z/\z<=127) ∧
  (ls ≠ []->∃b off,ao = some ⟨b,off,none⟩/\b < w.heap.size/\∀(k : Nat) (z : Int),ls[k]? = some z->w.cell? ⟨b,off + k,none⟩ = some (.int .i8 z))
theorem I8V.cell {w : World} {ao : Option Addr} {n cap : Nat} {ls : List Int} (h : I8V w (.slice ao n cap) ls) {k : Nat} (hk : k < ls.length) :
  ∃b off z,ao = some ⟨b,off,none⟩/\b < w.heap.size/\ls[k]? = some z/\w.cell? ⟨b,off + k,none⟩ = some (.int .i8 z)/\-128<=z/\z<=127:=by
 obtain ⟨ao',n',cap',h1,h2,h3,h4,h5,h6⟩:=h
 injection h1 with e1 e2 e3
 subst e1
 obtain ⟨b,off,e,hb,hc⟩:=h6 (by rintro rfl; simp at hk)
 have hz:=List.getElem?_eq_getElem hk
 have:=h5 _ (List.mem_of_getElem? hz)
 exact ⟨b,off,_,e,hb,hz,hc _ _ hz,this.1,this.2⟩
theorem I8V.below {w w' : World} {v : Value} {ls : List Int} (h : I8V w v ls) (hb : Below w.heap.size w w') : I8V w' v ls:=by
 obtain ⟨ao,n,cap,h1,h2,h3,h4,h5,h6⟩:=h
 refine ⟨ao,n,cap,h1,h2,h3,h4,h5,fun hne=>?_⟩
 obtain ⟨b,off,e,hlt,hc⟩:=h6 hne
 exact ⟨b,off,e,Nat.lt_of_lt_of_le hlt hb.size,fun k z hz=>(hb.cell (p:=⟨b,off + k,none⟩) hlt).trans (hc k z hz)⟩
def digF (C : Nat) (ls : List Int) : Nat->Nat->Int:=fun i j=>(ls.getD (i * C + j) 0).tmod 10

theorem nxa {w W W' : World} {o : Obj} (h : Below w.heap.size w W) (hb : Below (W.alloc o).heap.size (W.alloc o) W') : Below w.heap.size w W':=nx (h.alloc h.size o) hb
def i64Cells (ls : List Int) : Array Value:=(ls.map (Value.int .i64)).toArray
theorem I64V.new (W : World) (ls : List Int) (hb : (ls.all fun z=>decide (-9223372036854775808<=z/\z<=9223372036854775807)) = true) (hl : ls.length<=1000) :
  I64V (W.alloc (.cells (i64Cells ls) 2)) (.slice (some ⟨W.heap.size,0,none⟩) ls.length ls.length) ls:=by
 refine ⟨_,_,_,rfl,rfl,Nat.le_refl _,by omega,fun z hz=>of_decide_eq_true (List.all_eq_true.1 hb z hz),fun _=>⟨W.heap.size,_,rfl,heap_alloc_new W _,fun k z hk=>?_⟩⟩
 simp [i64Cells,hk]
theorem lastsB_i64 (ls : List Int) : LastsB (fun w v=>I64V w v ls):=fun _ _ _ x h=>h.below x
theorem intsM (v : Value) (ls : List Int) (R C : Nat) (r c : Int) (M : List (List Int)) (w : World) (h : I64V w v ls) (hr : r = R) (hc : c = C) (hl : ls.length = R * C) (hR : R<=1000) (hC : C<=1000) (hM : genM R C (fun i j=>ls.getD (i * C + j) 0) = M) :
  Calls Tryz.prog 42 #[.int .i64 r,.int .i64 c,v] w fun e w'=>∃v,e = .returned v/\MatV w' v R C M/\Below w.heap.size w w':=by
 subst hr
 subst hc
 subst hM
 exact (ints_any v R C ls w h hl hR hC).mono fun e w' ⟨v,bs,he,hm,hb⟩=>⟨v,he,hm.mat.1,hb⟩
theorem newM (R C : Nat) (r c : Int) (w : World) (hr : r = R) (hc : c = C) (hR : R<=1000000) (hC : C<=1000000) :
  Calls Tryz.prog 22 #[.int .i64 r,.int .i64 c] w fun e w'=>∃v,e = .returned v/\MatV w' v R C (zerosM R C)/\Below w.heap.size w w':=by
 subst hr
 subst hc
 exact (r5new_any R C w hR hC).mono fun e w' ⟨v,bs,he,hm,hb⟩=>⟨v,he,hm.mat.1,hb⟩
theorem MatV.agg {w : World} {v : Value} {R C : Int} {M : List (List Int)} (h : MatV w v R C M) : ∃o n k,v = .agg #[.int .i64 R,.int .i64 C,.slice o n k]:=by
 obtain ⟨A,rfl,ao,n,cap,rfl,-⟩:=h
 exact ⟨_,_,_,rfl⟩
theorem SmithV.below {w w' : World} {f : Value} {R C : Nat} {S U V W X : List (List Int)} (h : SmithV w f R C S U V W X) (hb : Below w.heap.size w w') : SmithV w' f R C S U V W X:=by
 obtain ⟨s,u,v,x,y,e,h1,h2,h3,h4,h5⟩:=h.ex
 exact ⟨s,u,v,x,y,e,h1.below hb,h2.below hb,h3.below hb,h4.below hb,h5.below hb⟩
theorem r13sameT (v1 v2 : Value) (xs : List Int) (w : World) (h1 : VecV w v1 xs) (h2 : VecV w v2 xs) :
  Calls Tryz.prog 17 #[v1,v2] w fun e w'=>e = .returned (.bool true)/\Below w.heap.size w w':=
 (r13same_any v1 v2 xs xs w h1 h2).mono fun e w' ⟨h,hb⟩=>⟨by rw [h,decide_eq_true rfl],hb⟩
theorem sisT (v : Value) (R C : Int) (M : List (List Int)) (b : Bool) (w : World) (h : MatV w v R C M) (hS : lessL 1000000 M = true) (hR : R<=1000000) (hC : C<=1000000) (hb : IsM2 R C M = b) :
  Calls Tryz.prog 26 #[v] w fun e w'=>e = .returned (.bool b)/\Below w.heap.size w w':=
 (sis_any v R C M w h (lessL_smd million hS) hR hC).mono fun e w' ⟨h,hb'⟩=>⟨by rw [h,hb],hb'⟩
theorem sameT (v1 v2 : Value) (R C : Int) (M : List (List Int)) (w : World) (h1 : MatV w v1 R C M) (h2 : MatV w v2 R C M) :
  Calls Tryz.prog 14 #[v1,v2] w fun e w'=>∃v,e = .returned v/\v = .bool true/\Below w.heap.size w w':=
 (same_any v1 v2 R C R C M M w h1 h2).mono fun e w' ⟨h,hb⟩=>⟨_,h,by rw [decide_eq_true ⟨rfl,rfl,rfl⟩],hb⟩
theorem r13checkC (av fv : Value) (w : World) (ha : MatV w av (2 : Nat) (1 : Nat) [[4],[6]]) (hf : SmithV w fv 2 1 [[2],[0]] [[-1,1],[3,-2]] [[2,1],[3,1]] [[1]] [[1]]) :
  Calls Tryz.prog 20 #[av,fv] w fun e w'=>∃v,e = .returned v/\v = .bool true/\Below w.heap.size w w':=
 (r13check_true av fv 2 1 [[4],[6]] _ _ _ _ _ w ha hf ⟨rfl,by decide⟩ ⟨rfl,by decide⟩ ⟨rfl,by decide⟩ ⟨rfl,by decide⟩ oM oM dE dE dE (lessL_smd million dE)
  (fun _=>MulB.sm million.bsm dE) (fun _=>MulB.sm million.bsm dE) (MulB.sm million.bsm dE) (MulB.sm million.bsm dE) dE).mono fun e w' ⟨h,hb⟩=>⟨_,h,rfl,hb⟩
theorem scheckC (av fv : Value) (w : World) (ha : MatV w av (2 : Nat) (1 : Nat) [[4],[6]]) (hf : SmithV w fv 2 1 [[2],[0]] [[-1,1],[3,-2]] [[2,1],[3,1]] [[1]] [[1]]) :
  Calls Tryz.prog 21 #[av,fv] w fun e w'=>∃v,e = .returned v/\v = .bool true/\Below w.heap.size w w':=
 (scheck_true av fv 2 1 [[4],[6]] _ _ _ _ _ w ha hf ⟨rfl,by decide⟩ ⟨rfl,by decide⟩ ⟨rfl,by decide⟩ ⟨rfl,by decide⟩ ⟨rfl,by decide⟩ ⟨rfl,by decide⟩ oM oM dE dE dE (lessL_smd million dE)
  (MulB.sm million.bsm dE) (MulB.sm million.bsm dE) (MulB.sm million.bsm dE) (MulB.sm million.bsm dE) dE).mono fun e w' ⟨h,hb⟩=>⟨_,h,rfl,hb⟩
theorem scheckZ (av : Value) (w : World) (ha : MatV w av (2 : Nat) (1 : Nat) [[4],[6]]) :
  Calls Tryz.prog 21 #[av,.agg #[.int .i64 0,.int .i64 0,.slice none 0 0,.int .i64 0,.int .i64 0,.slice none 0 0,.int .i64 0,.int .i64 0,.slice none 0 0,.int .i64 0,.int .i64 0,.slice none 0 0,.int .i64 0,.int .i64 0,.slice none 0 0]] w fun e w'=>∃v,e = .returned v/\v = .bool false/\Below w.heap.size w w':=
 (scheck_zero av 2 1 [[4],[6]] w ha ⟨rfl,by decide⟩ oM).mono fun e w' ⟨h,hb⟩=>⟨_,h,rfl,hb⟩
set_option maxHeartbeats 8000000 in
set_option maxRecDepth 20000 in
theorem sanity_any (w : World) : Calls Tryz.prog 12 #[] w fun e w'=>e = .returned (.bool true)/\Below w.heap.size w w':=by
 go_enter Tryz.func12,Tryz.ntmps12
 have hB:=Below.refl w.heap.size w
 go_wp2_with fail
 refine (intsM _ [4,6] 2 1 _ _ [[4],[6]] _ (I64V.new _ [4,6] dE dE) (by rfl) (by rfl) (by rfl) oM oM (by rfl)).mono ?_
 rintro e wc ⟨v1,rfl,hm,hb1⟩
 have hB:=nxa hB hb1
 obtain ⟨co,cn,ck,rfl⟩:=hm.agg
 have HM:=Hk hm
 clear hm
 go_upto_region 2 with (fail)
 refine wp_world ?_
 intro W1 hW1
 obtain ⟨hB1,bc,hs1⟩:=world1 hW1
 have hB:=nx hB hB1
 have HC:=Hk (HM.out.below hB1)
 obtain ⟨c1,c2,c3,c4,c5,c6⟩:=bc.three
 clear hW1 HM
 go_wp2_with fail
 refine (form_column _ W1 HC.out).mono ?_
 rintro e w2 ⟨fv,rfl,hf,hb2⟩
 have hB:=nx hB hb2
 have bc:=bc.below hb2
 obtain ⟨sv,uv,xv,yv,zv,rfl,hs0,hu0,hx0,hy0,hz0⟩:=id hf.ex
 obtain ⟨s0,s1,s2,rfl,-⟩:=id hs0
 obtain ⟨u0,u1,u2,rfl,-⟩:=id hu0
 obtain ⟨x0,x1,x2,rfl,-⟩:=id hx0
 obtain ⟨y0,y1,y2,rfl,-⟩:=id hy0
 obtain ⟨z0,z1,z2,rfl,-⟩:=id hz0
 have HFV:=Hk hf
 clear hf hs0 hu0 hx0 hy0 hz0 c1 c2 c3 c4 c5 c6
 go_upto_region 3 with (fail)
 refine wp_world ?_
 intro W3 hW3
 obtain ⟨hB3,bf,hs3⟩:=world1 hW3
 have hB:=nx hB hB3
 have bc:=bc.below hB3
 have HC:=Hk ((HC.out.below hb2).below hB3)
 have HF:=Hk (HFV.out.below hB3)
 have hBT:=hB
 have BC:=Hk bc
 have BF:=Hk bf
 clear hW3 HFV hB bc bf
 have hB:=Below.refl W3.heap.size W3
 go_wp2_with fail
 refine (intsM _ [2,0,0,3] 2 2 _ _ [[2,0],[0,3]] _ (I64V.new _ [2,0,0,3] dE dE) (by rfl) (by rfl) (by rfl) oM oM (by rfl)).mono ?_
 rintro e w1 ⟨v1,rfl,hm,hb1⟩
 have hB:=nxa hB hb1
 obtain ⟨mo,mn,mk,rfl⟩:=hm.agg
 have HM:=Hk hm
 clear hm
 go_wp2_with fail
 refine (inv_23 _ _ HM.out).mono ?_
 rintro e w1 ⟨v1,rfl,hv1,hb1⟩
 have hB:=nx hB hb1
 obtain ⟨mo,mk,rfl⟩:=hv1.shape
 have HV:=Hk hv1.vec
 clear hv1
 go_wp2_with fail
 refine (list_any _ [1,6] _ (I64V.new _ [1,6] dE dE) dE).mono ?_
 rintro e w1 ⟨v1,rfl,hv1,hb1⟩
 have HV1:=Hk (HV.out.below (nxa (Below.refl _ _) hb1))
 have hB:=nxa hB hb1
 obtain ⟨so,sk,rfl⟩:=hv1.shape
 go_wp2_with fail
 refine (r13sameT _ _ [1,6] _ HV1.out hv1.vec).mono ?_
 rintro e w1 ⟨rfl,hb1⟩
 have hB:=nx hB hb1
 clear hv1
 clear HM HV HV1
 go_wp2_with fail
 refine (intsM _ [2,4,4,8] 2 2 _ _ [[2,4],[4,8]] _ (I64V.new _ [2,4,4,8] dE dE) (by rfl) (by rfl) (by rfl) oM oM (by rfl)).mono ?_
 rintro e w1 ⟨v1,rfl,hm,hb1⟩
 have hB:=nxa hB hb1
 obtain ⟨mo,mn,mk,rfl⟩:=hm.agg
 have HM:=Hk hm
 clear hm
 go_wp2_with fail
 refine (inv_plain _ 2 2 [[2,4],[4,8]] [2] _ HM.out ⟨rfl,by decide⟩ oM oM oM kR dE).mono ?_
 rintro e w1 ⟨v1,rfl,hv1,hb1⟩
 have hB:=nx hB hb1
 obtain ⟨mo,mk,rfl⟩:=hv1.shape
 have HV:=Hk hv1.vec
 clear hv1
 go_wp2_with fail
 refine (list_any _ [2] _ (I64V.new _ [2] dE dE) dE).mono ?_
 rintro e w1 ⟨v1,rfl,hv1,hb1⟩
 have HV1:=Hk (HV.out.below (nxa (Below.refl _ _) hb1))
 have hB:=nxa hB hb1
 obtain ⟨so,sk,rfl⟩:=hv1.shape
 go_wp2_with fail
 refine (r13sameT _ _ [2] _ HV1.out hv1.vec).mono ?_
 rintro e w1 ⟨rfl,hb1⟩
 have hB:=nx hB hb1
 clear hv1
 clear HM HV HV1
 go_wp2_with fail
 refine (newM 2 3 _ _ _ (by rfl) (by rfl) oM oM).mono ?_
 rintro e w1 ⟨v1,rfl,hm,hb1⟩
 have hB:=nx hB hb1
 obtain ⟨mo,mn,mk,rfl⟩:=hm.agg
 have HM:=Hk hm
 clear hm
 go_wp2_with fail
 refine (inv_plain _ 2 3 (zerosM 2 3) [] _ HM.out ⟨rfl,by decide⟩ oM oM oM kR dE).mono ?_
 rintro e w1 ⟨v1,rfl,hv1,hb1⟩
 have hB:=nx hB hb1
 obtain ⟨mo,mk,rfl⟩:=hv1.shape
 have HV:=Hk hv1.vec
 clear hv1
 clear HM HV
 go_wp2_with fail
 refine (newM 0 3 _ _ _ (by rfl) (by rfl) oM oM).mono ?_
 rintro e w1 ⟨v1,rfl,hm,hb1⟩
 have hB:=nx hB hb1
 obtain ⟨mo,mn,mk,rfl⟩:=hm.agg
 have HM:=Hk hm
 clear hm
 go_wp2_with fail
 refine (invariants_none _ 3 (zerosM 0 3) _ HM.out ⟨rfl,by decide⟩).mono ?_
 rintro e w1 ⟨v1,rfl,hv1,hb1⟩
 have hB:=nx hB hb1
 obtain ⟨mo,mk,rfl⟩:=hv1.shape
 have HV:=Hk hv1.vec
 clear hv1
 clear HM HV
 go_wp2_with fail
 refine (intsM _ [1,0,0,0,2,0] 2 3 _ _ [[1,0,0],[0,2,0]] _ (I64V.new _ [1,0,0,0,2,0] dE dE) (by rfl) (by rfl) (by rfl) oM oM (by rfl)).mono ?_
 rintro e w1 ⟨v1,rfl,hm,hb1⟩
 have hB:=nxa hB hb1
 obtain ⟨mo,mn,mk,rfl⟩:=hm.agg
 have HM:=Hk hm
 clear hm
 go_wp2_with fail
 refine (sisT _ _ _ [[1,0,0],[0,2,0]] true _ HM.out dE dE dE dE).mono ?_
 rintro e w1 ⟨rfl,hb1⟩
 have hB:=nx hB hb1
 clear HM
 go_wp2_with fail
 refine (intsM _ [2,0,0,1] 2 2 _ _ [[2,0],[0,1]] _ (I64V.new _ [2,0,0,1] dE dE) (by rfl) (by rfl) (by rfl) oM oM (by rfl)).mono ?_
 rintro e w1 ⟨v1,rfl,hm,hb1⟩
 have hB:=nxa hB hb1
 obtain ⟨mo,mn,mk,rfl⟩:=hm.agg
 have HM:=Hk hm
 clear hm
 go_wp2_with fail
 refine (sisT _ _ _ [[2,0],[0,1]] false _ HM.out dE dE dE dE).mono ?_
 rintro e w1 ⟨rfl,hb1⟩
 have hB:=nx hB hb1
 clear HM
 go_wp2_with fail
 refine (intsM _ [0,0,0,1] 2 2 _ _ [[0,0],[0,1]] _ (I64V.new _ [0,0,0,1] dE dE) (by rfl) (by rfl) (by rfl) oM oM (by rfl)).mono ?_
 rintro e w1 ⟨v1,rfl,hm,hb1⟩
 have hB:=nxa hB hb1
 obtain ⟨mo,mn,mk,rfl⟩:=hm.agg
 have HM:=Hk hm
 clear hm
 go_wp2_with fail
 refine (sisT _ _ _ [[0,0],[0,1]] false _ HM.out dE dE dE dE).mono ?_
 rintro e w1 ⟨rfl,hb1⟩
 have hB:=nx hB hb1
 clear HM
 go_wp2_with fail
 refine (intsM _ [-1] 1 1 _ _ [[-1]] _ (I64V.new _ [-1] dE dE) (by rfl) (by rfl) (by rfl) oM oM (by rfl)).mono ?_
 rintro e w1 ⟨v1,rfl,hm,hb1⟩
 have hB:=nxa hB hb1
 obtain ⟨mo,mn,mk,rfl⟩:=hm.agg
 have HM:=Hk hm
 clear hm
 go_wp2_with fail
 refine (sisT _ _ _ [[-1]] false _ HM.out dE dE dE dE).mono ?_
 rintro e w1 ⟨rfl,hb1⟩
 have hB:=nx hB hb1
 clear HM
 go_wp2_with fail
 refine (intsM _ [1,1] 1 2 _ _ [[1,1]] _ (I64V.new _ [1,1] dE dE) (by rfl) (by rfl) (by rfl) oM oM (by rfl)).mono ?_
 rintro e w1 ⟨v1,rfl,hm,hb1⟩
 have hB:=nxa hB hb1
 obtain ⟨mo,mn,mk,rfl⟩:=hm.agg
 have HM:=Hk hm
 clear hm
 go_wp2_with fail
 refine (sisT _ _ _ [[1,1]] false _ HM.out dE dE dE dE).mono ?_
 rintro e w1 ⟨rfl,hb1⟩
 have hB:=nx hB hb1
 clear HM
 go_wp2_with fail
 refine (newM 0 2 _ _ _ (by rfl) (by rfl) oM oM).mono ?_
 rintro e w1 ⟨v1,rfl,hm,hb1⟩
 have hB:=nx hB hb1
 obtain ⟨mo,mn,mk,rfl⟩:=hm.agg
 have HM:=Hk hm
 clear hm
 go_wp2_with fail
 refine (sisT _ _ _ (zerosM 0 2) true _ HM.out dE dE dE dE).mono ?_
 rintro e w1 ⟨rfl,hb1⟩
 have hB:=nx hB hb1
 clear HM
 go_wp2_with fail
 refine (sisT _ 1 1 [] false _ ⟨_,rfl,RowsV.nil _⟩ dE dE dE dE).mono ?_
 rintro e w1 ⟨rfl,hb1⟩
 have hB:=nx hB hb1
 have bc:=BC.out.below hB
 have bf:=BF.out.below hB
 have HC:=Hk (HC.out.below hB)
 have HF:=Hk (HF.out.below hB)
 have HS : HidS (MatV w1 (.agg #[.int .i64 2,.int .i64 1,.slice s0 s1 s2]) 2 1 [[2],[0]]):=⟨by
  obtain ⟨sv,uv,xv,yv,zv,e,h1,-⟩:=HF.out.ex
  injection e with e
  simp only [Array.mk.injEq,List.cons.injEq] at e
  exact ⟨_,rfl,by rw [e.2.2.1]; exact h1⟩⟩
 have hBF:=nx hBT hB
 obtain ⟨c1,c2,c3,c4,c5,c6⟩:=bc.three
 obtain ⟨⟨q0,q1,q2,q3,q4,q5,q6,q7,q8,q9,q10,q11,q12,q13,q14⟩,-⟩:=bf.all15
 have hl1:=lastsB_i64 [2,0]
 go_upto_region 5 with (fail)
 refine wp_region_each rfl (RV w1 _ [⟨0,71,fun _ v=>v = .bool true⟩,⟨1,72,fun _ v=>v = .bool true⟩,⟨2,73,fun _ v=>v = .bool true⟩,⟨3,74,fun _ v=>v = .bool true⟩,⟨4,75,fun _ v=>v = .bool true⟩,⟨5,76,fun _ v=>v = .pointer (some ⟨w2.heap.size,0,none⟩)⟩,⟨6,77,fun _ v=>v = .agg #[.int .i64 2,.int .i64 1,.slice s0 s1 s2]⟩,⟨7,78,fun w v=>I64V w v [2,0]⟩,⟨8,79,fun w v=>MatV w v (2 : Nat) (1 : Nat) [[2],[0]]⟩,⟨9,80,fun _ v=>v = .bool true⟩,⟨10,81,fun _ v=>v = .bool true⟩,⟨11,82,fun _ v=>v = .bool true⟩,⟨12,83,fun _ v=>v = .agg #[.int .i64 2,.int .i64 1,.slice co cn ck]⟩,⟨13,84,fun _ v=>v = .agg #[.int .i64 2,.int .i64 1,.slice s0 s1 s2,.int .i64 2,.int .i64 2,.slice u0 u1 u2,.int .i64 2,.int .i64 2,.slice x0 x1 x2,.int .i64 1,.int .i64 1,.slice y0 y1 y2,.int .i64 1,.int .i64 1,.slice z0 z1 z2]⟩,⟨14,85,fun _ v=>v = .bool true⟩,⟨15,86,fun _ v=>v = .bool true⟩,⟨16,87,fun _ v=>v = .bool true⟩,⟨17,88,fun _ v=>v = .agg #[.int .i64 2,.int .i64 1,.slice co cn ck]⟩,⟨18,89,fun _ v=>v = .agg #[.int .i64 2,.int .i64 1,.slice s0 s1 s2,.int .i64 2,.int .i64 2,.slice u0 u1 u2,.int .i64 2,.int .i64 2,.slice x0 x1 x2,.int .i64 1,.int .i64 1,.slice y0 y1 y2,.int .i64 1,.int .i64 1,.slice z0 z1 z2]⟩,⟨19,90,fun _ v=>v = .bool true⟩,⟨20,91,fun _ v=>v = .bool true⟩,⟨21,92,fun _ v=>v = .bool true⟩,⟨22,93,fun _ v=>v = .agg #[.int .i64 2,.int .i64 1,.slice co cn ck]⟩,⟨23,94,fun _ v=>v = .agg #[.int .i64 0,.int .i64 0,.slice none 0 0,.int .i64 0,.int .i64 0,.slice none 0 0,.int .i64 0,.int .i64 0,.slice none 0 0,.int .i64 0,.int .i64 0,.slice none 0 0,.int .i64 0,.int .i64 0,.slice none 0 0]⟩,⟨24,95,fun _ v=>v = .bool false⟩,⟨25,96,fun _ v=>v = .bool true⟩,⟨26,97,fun _ v=>v = .bool true⟩,⟨27,0,fun _ v=>v = .bool true⟩]) kR RV.start ?fin1 ?steps1
 case steps1=>
  refine ⟨?_,?_,?_,?_,?_,?_,?_,?_,?_,?_,?_,?_,?_,?_,?_,?_,?_,?_,?_,?_,?_,?_,?_,?_,?_,?_,?_,?_,trivial⟩ <;> (intro L T wS hL hd hcl hI K hK; try refine sW rfl ?_)
  ·have zt : T[3]? = some (.bool true):=hI.keep 3 sI
   go_simp
   exact hK _ _ (hI.y mm0 rfl)
  ·obtain ⟨_,zt0,rfl⟩:=hI.v mm0 (hd 0)
   go_simp
   exact hK _ _ (hI.y mm1 rfl)
  ·obtain ⟨_,zg,rfl⟩:=hI.v mm1 (hd 1)
   refine sW (by simp [Region.wanted,yielded,zg]) ?_
   have zt : T[4]? = some (.bool true):=hI.keep 4 sI
   go_simp
   exact hK _ _ (hI.y mm2 rfl)
  ·obtain ⟨_,zt1,rfl⟩:=hI.v mm1 (hd 1)
   obtain ⟨_,zt2,rfl⟩:=hI.v mm2 (hd 2)
   go_simp
   exact hK _ _ (hI.y mm3 rfl)
  ·obtain ⟨_,zt3,rfl⟩:=hI.v mm3 (hd 3)
   go_simp
   exact hK _ _ (hI.y mm4 rfl)
  ·obtain ⟨_,zg,rfl⟩:=hI.v mm4 (hd 4)
   refine sW (by simp [Region.wanted,yielded,zg]) ?_
   have zt : T[2]? = some (.pointer (some ⟨w2.heap.size,0,none⟩)):=hI.keep 2 sI
   go_simp
   exact hK _ _ (hI.y mm5 rfl)
  ·obtain ⟨_,zg,rfl⟩:=hI.v mm4 (hd 4)
   refine sW (by simp [Region.wanted,yielded,zg]) ?_
   obtain ⟨_,zt5,rfl⟩:=hI.v mm5 (hd 5)
   have cc0:=hI.cell q0
   have cc1:=hI.cell q1
   have cc2:=hI.cell q2
   go_simp
   exact hK _ _ (hI.y mm6 rfl)
  ·obtain ⟨_,zg,rfl⟩:=hI.v mm4 (hd 4)
   refine sW (by simp [Region.wanted,yielded,zg]) ?_
   go_simp
   exact hK _ _ ((hI.world ((Below.refl _ _).alloc (Nat.le_refl _) _)).y mm7 (I64V.new _ [2,0] dE dE))
  ·obtain ⟨_,zg,rfl⟩:=hI.v mm4 (hd 4)
   refine sW (by simp [Region.wanted,yielded,zg]) ?_
   obtain ⟨v7,zt7,h7⟩:=hI.v mm7 (hd 7)
   go_simp
   refine (intsM _ [2,0] 2 1 _ _ [[2],[0]] _ h7 (by rfl) (by rfl) (by rfl) oM oM (by rfl)).mono ?_
   rintro e wa ⟨v,rfl,hv,hba⟩
   exact hK _ _ ((hI.world hba).y mm8 hv)
  ·obtain ⟨_,zg,rfl⟩:=hI.v mm4 (hd 4)
   refine sW (by simp [Region.wanted,yielded,zg]) ?_
   obtain ⟨_,zt6,rfl⟩:=hI.v mm6 (hd 6)
   obtain ⟨v8,zt8,h8⟩:=hI.v mm8 (hd 8)
   go_simp
   refine (sameT _ _ 2 1 [[2],[0]] _ (HS.out.below hI.bel) h8).mono ?_
   rintro e wa ⟨v,rfl,hv,hba⟩
   exact hK _ _ ((hI.world hba).y mm9 hv)
  ·obtain ⟨_,zt4,rfl⟩:=hI.v mm4 (hd 4)
   obtain ⟨_,zt9,rfl⟩:=hI.v mm9 (hd 9)
   go_simp
   exact hK _ _ (hI.y mm10 rfl)
  ·obtain ⟨_,zt10,rfl⟩:=hI.v mm10 (hd 10)
   go_simp
   exact hK _ _ (hI.y mm11 rfl)
  ·obtain ⟨_,zg,rfl⟩:=hI.v mm11 (hd 11)
   refine sW (by simp [Region.wanted,yielded,zg]) ?_
   have zt : T[1]? = some (.pointer (some ⟨wc.heap.size,0,none⟩)):=hI.keep 1 sI
   have cc0:=hI.cell c1
   have cc1:=hI.cell c2
   have cc2:=hI.cell c3
   go_simp
   exact hK _ _ (hI.y mm12 rfl)
  ·obtain ⟨_,zg,rfl⟩:=hI.v mm11 (hd 11)
   refine sW (by simp [Region.wanted,yielded,zg]) ?_
   have zt : T[2]? = some (.pointer (some ⟨w2.heap.size,0,none⟩)):=hI.keep 2 sI
   have cc0:=hI.cell q0
   have cc1:=hI.cell q1
   have cc2:=hI.cell q2
   have cc3:=hI.cell q3
   have cc4:=hI.cell q4
   have cc5:=hI.cell q5
   have cc6:=hI.cell q6
   have cc7:=hI.cell q7
   have cc8:=hI.cell q8
   have cc9:=hI.cell q9
   have cc10:=hI.cell q10
   have cc11:=hI.cell q11
   have cc12:=hI.cell q12
   have cc13:=hI.cell q13
   have cc14:=hI.cell q14
   go_simp
   exact hK _ _ (hI.y mm13 rfl)
  ·obtain ⟨_,zg,rfl⟩:=hI.v mm11 (hd 11)
   refine sW (by simp [Region.wanted,yielded,zg]) ?_
   obtain ⟨_,zt12,rfl⟩:=hI.v mm12 (hd 12)
   obtain ⟨_,zt13,rfl⟩:=hI.v mm13 (hd 13)
   go_simp
   refine (r13checkC _ _ _ (HC.out.below hI.bel) (HF.out.below hI.bel)).mono ?_
   rintro e wa ⟨v,rfl,hv,hba⟩
   exact hK _ _ ((hI.world hba).y mm14 hv)
  ·obtain ⟨_,zt11,rfl⟩:=hI.v mm11 (hd 11)
   obtain ⟨_,zt14,rfl⟩:=hI.v mm14 (hd 14)
   go_simp
   exact hK _ _ (hI.y mm15 rfl)
  ·obtain ⟨_,zt15,rfl⟩:=hI.v mm15 (hd 15)
   go_simp
   exact hK _ _ (hI.y mm16 rfl)
  ·obtain ⟨_,zg,rfl⟩:=hI.v mm16 (hd 16)
   refine sW (by simp [Region.wanted,yielded,zg]) ?_
   have zt : T[1]? = some (.pointer (some ⟨wc.heap.size,0,none⟩)):=hI.keep 1 sI
   have cc0:=hI.cell c1
   have cc1:=hI.cell c2
   have cc2:=hI.cell c3
   go_simp
   exact hK _ _ (hI.y mm17 rfl)
  ·obtain ⟨_,zg,rfl⟩:=hI.v mm16 (hd 16)
   refine sW (by simp [Region.wanted,yielded,zg]) ?_
   have zt : T[2]? = some (.pointer (some ⟨w2.heap.size,0,none⟩)):=hI.keep 2 sI
   have cc0:=hI.cell q0
   have cc1:=hI.cell q1
   have cc2:=hI.cell q2
   have cc3:=hI.cell q3
   have cc4:=hI.cell q4
   have cc5:=hI.cell q5
   have cc6:=hI.cell q6
   have cc7:=hI.cell q7
   have cc8:=hI.cell q8
   have cc9:=hI.cell q9
   have cc10:=hI.cell q10
   have cc11:=hI.cell q11
   have cc12:=hI.cell q12
   have cc13:=hI.cell q13
   have cc14:=hI.cell q14
   go_simp
   exact hK _ _ (hI.y mm18 rfl)
  ·obtain ⟨_,zg,rfl⟩:=hI.v mm16 (hd 16)
   refine sW (by simp [Region.wanted,yielded,zg]) ?_
   obtain ⟨_,zt17,rfl⟩:=hI.v mm17 (hd 17)
   obtain ⟨_,zt18,rfl⟩:=hI.v mm18 (hd 18)
   go_simp
   refine (scheckC _ _ _ (HC.out.below hI.bel) (HF.out.below hI.bel)).mono ?_
   rintro e wa ⟨v,rfl,hv,hba⟩
   exact hK _ _ ((hI.world hba).y mm19 hv)
  ·obtain ⟨_,zt16,rfl⟩:=hI.v mm16 (hd 16)
   obtain ⟨_,zt19,rfl⟩:=hI.v mm19 (hd 19)
   go_simp
   exact hK _ _ (hI.y mm20 rfl)
  ·obtain ⟨_,zt20,rfl⟩:=hI.v mm20 (hd 20)
   go_simp
   exact hK _ _ (hI.y mm21 rfl)
  ·obtain ⟨_,zg,rfl⟩:=hI.v mm21 (hd 21)
   refine sW (by simp [Region.wanted,yielded,zg]) ?_
   have zt : T[1]? = some (.pointer (some ⟨wc.heap.size,0,none⟩)):=hI.keep 1 sI
   have cc0:=hI.cell c1
   have cc1:=hI.cell c2
   have cc2:=hI.cell c3
   go_simp
   exact hK _ _ (hI.y mm22 rfl)
  ·obtain ⟨_,zg,rfl⟩:=hI.v mm21 (hd 21)
   refine sW (by simp [Region.wanted,yielded,zg]) ?_
   go_simp
   exact hK _ _ (hI.y mm23 rfl)
  ·obtain ⟨_,zg,rfl⟩:=hI.v mm21 (hd 21)
   refine sW (by simp [Region.wanted,yielded,zg]) ?_
   obtain ⟨_,zt22,rfl⟩:=hI.v mm22 (hd 22)
   obtain ⟨_,zt23,rfl⟩:=hI.v mm23 (hd 23)
   go_simp
   refine (scheckZ _ _ (HC.out.below hI.bel)).mono ?_
   rintro e wa ⟨v,rfl,hv,hba⟩
   exact hK _ _ ((hI.world hba).y mm24 hv)
  ·obtain ⟨_,zg,rfl⟩:=hI.v mm21 (hd 21)
   refine sW (by simp [Region.wanted,yielded,zg]) ?_
   obtain ⟨_,zt24,rfl⟩:=hI.v mm24 (hd 24)
   go_simp
   exact hK _ _ (hI.y mm25 rfl)
  ·obtain ⟨_,zt21,rfl⟩:=hI.v mm21 (hd 21)
   obtain ⟨_,zt25,rfl⟩:=hI.v mm25 (hd 25)
   go_simp
   exact hK _ _ (hI.y mm26 rfl)
  ·obtain ⟨_,zt26,rfl⟩:=hI.v mm26 (hd 26)
   go_simp
   exact hK _ _ (hI.y mm27 rfl)
 intro T w9 hI
 obtain ⟨va0,q0,rfl⟩:=hI.v mm0 rfl
 obtain ⟨va1,q1,rfl⟩:=hI.v mm1 rfl
 obtain ⟨va2,q2,rfl⟩:=hI.v mm2 rfl
 obtain ⟨va3,q3,rfl⟩:=hI.v mm3 rfl
 obtain ⟨va4,q4,rfl⟩:=hI.v mm4 rfl
 obtain ⟨va5,q5,rfl⟩:=hI.v mm5 rfl
 obtain ⟨va6,q6,rfl⟩:=hI.v mm6 rfl
 obtain ⟨va7,q7,ha7⟩:=hI.v mm7 rfl
 obtain ⟨va8,q8,ha8⟩:=hI.v mm8 rfl
 obtain ⟨va9,q9,rfl⟩:=hI.v mm9 rfl
 obtain ⟨va10,q10,rfl⟩:=hI.v mm10 rfl
 obtain ⟨va11,q11,rfl⟩:=hI.v mm11 rfl
 obtain ⟨va12,q12,rfl⟩:=hI.v mm12 rfl
 obtain ⟨va13,q13,rfl⟩:=hI.v mm13 rfl
 obtain ⟨va14,q14,rfl⟩:=hI.v mm14 rfl
 obtain ⟨va15,q15,rfl⟩:=hI.v mm15 rfl
 obtain ⟨va16,q16,rfl⟩:=hI.v mm16 rfl
 obtain ⟨va17,q17,rfl⟩:=hI.v mm17 rfl
 obtain ⟨va18,q18,rfl⟩:=hI.v mm18 rfl
 obtain ⟨va19,q19,rfl⟩:=hI.v mm19 rfl
 obtain ⟨va20,q20,rfl⟩:=hI.v mm20 rfl
 obtain ⟨va21,q21,rfl⟩:=hI.v mm21 rfl
 obtain ⟨va22,q22,rfl⟩:=hI.v mm22 rfl
 obtain ⟨va23,q23,rfl⟩:=hI.v mm23 rfl
 obtain ⟨va24,q24,rfl⟩:=hI.v mm24 rfl
 obtain ⟨va25,q25,rfl⟩:=hI.v mm25 rfl
 obtain ⟨va26,q26,rfl⟩:=hI.v mm26 rfl
 obtain ⟨va27,q27,rfl⟩:=hI.v mm27 rfl
 have hT:=tmps_set [(71,.bool true),(72,.bool true),(73,.bool true),(74,.bool true),(75,.bool true),(76,.pointer (some ⟨w2.heap.size,0,none⟩)),(77,.agg #[.int .i64 2,.int .i64 1,.slice s0 s1 s2]),(78,va7),(79,va8),(80,.bool true),(81,.bool true),(82,.bool true),(83,.agg #[.int .i64 2,.int .i64 1,.slice co cn ck]),(84,.agg #[.int .i64 2,.int .i64 1,.slice s0 s1 s2,.int .i64 2,.int .i64 2,.slice u0 u1 u2,.int .i64 2,.int .i64 2,.slice x0 x1 x2,.int .i64 1,.int .i64 1,.slice y0 y1 y2,.int .i64 1,.int .i64 1,.slice z0 z1 z2]),(85,.bool true),(86,.bool true),(87,.bool true),(88,.agg #[.int .i64 2,.int .i64 1,.slice co cn ck]),(89,.agg #[.int .i64 2,.int .i64 1,.slice s0 s1 s2,.int .i64 2,.int .i64 2,.slice u0 u1 u2,.int .i64 2,.int .i64 2,.slice x0 x1 x2,.int .i64 1,.int .i64 1,.slice y0 y1 y2,.int .i64 1,.int .i64 1,.slice z0 z1 z2]),(90,.bool true),(91,.bool true),(92,.bool true),(93,.agg #[.int .i64 2,.int .i64 1,.slice co cn ck]),(94,.agg #[.int .i64 0,.int .i64 0,.slice none 0 0,.int .i64 0,.int .i64 0,.slice none 0 0,.int .i64 0,.int .i64 0,.slice none 0 0,.int .i64 0,.int .i64 0,.slice none 0 0,.int .i64 0,.int .i64 0,.slice none 0 0]),(95,.bool false),(96,.bool true),(97,.bool true),(0,.bool true)]
  (fun j hj=>hI.keep j (by simp only [List.forall_mem_cons] at hj ⊢; simp [hj]))
  (by simp only [List.forall_mem_cons]; simp [q0,q1,q2,q3,q4,q5,q6,q7,q8,q9,q10,q11,q12,q13,q14,q15,q16,q17,q18,q19,q20,q21,q22,q23,q24,q25,q26,q27]) hI.size
 have hbw9:=hI.bel
 clear hI
 simp only [List.foldl_cons,List.foldl_nil,List.setIfInBounds_toArray,List.set_cons_zero,List.set_cons_succ,ptr] at hT
 subst hT
 clear q0 q1 q2 q3 q4 q5 q6 q7 q8 q9 q10 q11 q12 q13 q14 q15 q16 q17 q18 q19 q20 q21 q22 q23 q24 q25 q26 q27
 have hBF:=nx hBF hbw9
 go_wp2
 go_ret
 exact ⟨rfl,hBF⟩
theorem sumTo_sumN (f : Nat->Int) (n : Nat) : sumTo f n = sumN n f:=by
 induction n with
 | zero=>rfl
 | succ n ih=>unfold sumTo sumN; rw [ih]
theorem mulf_genM {R m C : Nat} {F G : Nat->Nat->Int} {i j : Nat} (hi : i < R) (hj : j < C) : mulf (genM R m F) (genM m C G) m i j = sumN m fun t=>F i t * G t j:=by
 unfold mulf
 rw [sumTo_sumN]
 exact sumN_congr fun t ht=>by rw [ent_genM hi ht,ent_genM ht hj]
theorem BB3_sm {z : Int} (h : z.natAbs<=BB ^ 3 * 16) : Sm z:=Nat.lt_of_le_of_lt h (Nat.lt_of_le_of_lt BB_pow (B32_pow_lt DLIM LIM (by rw [DLIM_eq,LIM_eq]; omega)))
theorem MulSm_of {R m C a b : Nat} {F G : Nat->Nat->Int} (hF : leM a R m F) (hG : leM b m C G) (hm : m<=4) (ha : a<=BB ^ 3 * 16) (hb : b<=BB ^ 3 * 16) (hab : 4 * (a * b)<=BB ^ 3 * 16) : MulSm (genM R m F) (genM m C G) R m C:=by
 intro i hi j hj k hk
 rw [ent_genM hi hk,ent_genM hk hj]
 have h1:=hF i hi k hk
 have h2:=hG k hk j hj
 have h3:=abs_mul_le h1 h2
 refine ⟨BB3_sm oM,BB3_sm oM,BB3_sm oM,BB3_sm ?_⟩
 unfold mulf
 rw [sumTo_sumN]
 have h4:=sumN_natAbs (n:=k) (f:=fun t=>ent (genM R m F) i t * ent (genM m C G) t j) (B:=a * b) fun t ht=>by
  rw [ent_genM hi oM,ent_genM oM hj]
  exact abs_mul_le (hF i hi t oM) (hG t oM j hj)
 have h5 : k * (a * b)<=4 * (a * b):=Nat.mul_le_mul_right _ oM
 omega
theorem leM_of_ok {B R C : Nat} {F : Nat->Nat->Int} (h : okF B R C F) : leM B R C F:=fun a ha b hb=>Nat.le_of_lt (h a ha b hb)
theorem bb_nums {h : Nat} (hh : h<=1048576) : BB<=BB ^ 3 * 16/\h<=BB/\4 * (BB * BB)<=BB ^ 3 * 16/\4 * (BB * h)<=BB ^ 3 * 16/\4 * (BB * BB) * 4 * BB<=BB ^ 3 * 16/\4 * (4 * (BB * h) * BB)<=BB ^ 3 * 16/\4 * (BB * h)<=BB ^ 3 * 16:=by
 have h0 : 1048576<=BB:=Nat.le_trans dE BB_97
 have h1:=BB_pos
 generalize BB = B at *
 have e3 : B ^ 3 * 16 = 16 * (B * (B * B)):=by
  rw [show (3 : Nat) = 2 + 1 from rfl,Nat.pow_succ,Nat.pow_two,Nat.mul_comm,Nat.mul_comm (B * B)]
 have q1 : B<=B * B:=Nat.le_mul_of_pos_left _ h1
 have q2 : B * B<=B * (B * B):=Nat.mul_le_mul_left _ q1
 have q3 : B * h<=B * B:=Nat.mul_le_mul_left _ oM
 have q4 : B * h * B<=B * (B * B):=by
  rw [Nat.mul_assoc]
  exact Nat.mul_le_mul_left _ (Nat.mul_le_mul_right _ oM)
 have q5 : 4 * (4 * (B * h) * B) = 16 * (B * h * B):=by rw [Nat.mul_assoc 4,<-Nat.mul_assoc 4 4]
 have q6 : 4 * (B * B) * 4 * B = 16 * (B * (B * B)):=by
  rw [Nat.mul_comm (4 * (B * B)) 4,<-Nat.mul_assoc,Nat.mul_assoc,Nat.mul_comm (B * B) B]
 rw [e3,q5,q6]
 refine ⟨by omega,by omega,by omega,by omega,by omega,by omega,by omega⟩
structure Chk (R C : Nat) (A S U V W X : List (List Int)) : Prop where
 fs : Fits R C S
 fu : Fits R R U
 fv : Fits R R V
 fw : Fits C C W
 fx : Fits C C X
 is : IsM2 R C S = true
 i1 : genM R R (mulf U V R) = genM R R idf
 i2 : genM C C (mulf W X C) = genM C C idf
 ss : ∀r ∈ S,∀z ∈ r,Smd z
 m1 : MulSm U V R R R
 m2 : MulSm W X C C C
 m3 : MulSm U A R R C
 m4 : MulSm (genM R C (mulf U A R)) W R C C
 p : genM R C (mulf (genM R C (mulf U A R)) W C) = S
theorem genM_smd {R C : Nat} {F : Nat->Nat->Int} (h : okF BB R C F) : ∀r ∈ genM R C F,∀z ∈ r,Smd z:=by
 intro r hr z hz
 unfold genM at hr
 obtain ⟨i,hi,rfl⟩:=List.mem_map.1 hr
 obtain ⟨j,hj,rfl⟩:=List.mem_map.1 hz
 exact BB_smd (h i (List.mem_range.1 hi) j (List.mem_range.1 hj))
theorem Chk.of {R C r : Nat} {M : List (List Int)} {y : W5} (hR : R<=4) (hC : C<=4) (hF : Fits R C M) (hA : leM 1048576 R C (ent M)) (hr : Rel R C (ent M) y) (hI : Inv R C r (ent M) y.s) (hok : okW BB R C R C y) :
  Chk R C M (genM R C y.s) (genM R R y.u) (genM R R (trF y.v)) (genM C C (trF y.w)) (genM C C y.x):=by
 obtain ⟨o1,o2,o3,o4,o5⟩:=hok
 obtain ⟨b1,b2,b3,b4,b5,b6,b7⟩:=bb_nums (h:=1048576) (Nat.le_refl _)
 have eM : M = genM R C (ent M):=fits_genM hF
 have eUA : genM R C (mulf (genM R R y.u) M R) = genM R C fun i t=>sumN R fun s=>y.u i s * ent M s t:=genM_congr fun i hi j hj=>by
  conv=>lhs; rw [eM]
  rw [mulf_genM hi hj]
 have hUA : leM (4 * (BB * 1048576)) R C fun i t=>sumN R fun s=>y.u i s * ent M s t:=fun i hi j hj=>by
  have h1:=sumN_natAbs (n:=R) (f:=fun s=>y.u i s * ent M s j) (B:=BB * 1048576) fun t ht=>abs_mul_le (leM_of_ok o2 i hi t ht) (hA t ht j hj)
  exact Nat.le_trans h1 (Nat.mul_le_mul_right _ hR)
 refine ⟨genM_fits _ _ _,genM_fits _ _ _,genM_fits _ _ _,genM_fits _ _ _,genM_fits _ _ _,dg_isM2 hI.dg hI.chn,genM_congr fun i hi j hj=>?_,genM_congr fun i hi j hj=>?_,genM_smd o1,?_,?_,?_,?_,?_⟩
 ·rw [mulf_genM hi hj]
  exact hr.uv i hi j hj
 ·rw [mulf_genM hi hj]
  have:=hr.xw j hj i hi
  rw [idf_comm i j,<-this]
  exact sumN_congr fun t ht=>Int.mul_comm _ _
 ·exact MulSm_of (leM_of_ok o2) (leM_tr (leM_of_ok o3)) hR b1 b1 b3
 ·exact MulSm_of (leM_tr (leM_of_ok o4)) (leM_of_ok o5) hC b1 b1 b3
 ·conv=>arg 2; rw [eM]
  exact MulSm_of (leM_of_ok o2) hA hR b1 (Nat.le_trans b2 b1) b4
 ·rw [eUA]
  exact MulSm_of hUA (leM_tr (leM_of_ok o4)) hC b7 b1 b6
 ·rw [eUA]
  refine genM_congr fun i hi j hj=>?_
  rw [mulf_genM hi hj,hr.s i hi j hj]
  simp only [<-sumN_mul,<-sumN_mulr]
  rw [sumN_swap]
  refine sumN_congr fun s hs=>sumN_congr fun t ht=>?_
  show y.u i s * ent M s t * y.w j t = y.u i s * (ent M s t * y.w j t)
  rw [Int.mul_assoc]
theorem ent_leM {n R C : Nat} {F : Nat->Nat->Int} (h : leM n R C F) : leM n R C (ent (genM R C F)):=fun a ha b hb=>by rw [ent_genM ha hb]; exact h a ha b hb
theorem invL (v : Value) (M : List (List Int)) (R C : Nat) (L : List Int) (w : World) (h : MatV w v R C M) (hF : Fits R C M) (hR : R<=4) (hC : C<=4) (hA : leM 1048576 R C (ent M)) (hL : ∀r F,Inv R C r (ent M) F->genV r (fun i=>F i i) = L) :
  Calls Tryz.prog 18 #[v] w fun e w'=>∃v,e = .returned v/\VecV w' v L/\Below w.heap.size w w':=
 (inv_all v M R C w h hF hR hC hA).mono fun e w' ⟨v,F,r,h1,h2,h3,h4⟩=>⟨v,h1,by rw [<-hL r F h2]; exact h3.vec,h4⟩
end Go.Proofs.YtnocgagoaldfnaaGreat

namespace Go.Proofs.YtnocgagoaldfnaaGreat
open Go.ChangeShapes Go.WideShapes Go.ChangeAt Go.RowKit
theorem Tryz.own : ownKnob Tryz.prog.godebug = none:=by kernel_rfl
theorem Tryz.laidOut : laidOutB Tryz.prog = true:=by kernel_rfl
theorem cells40 : Tryz.prog.cellsOf 40 = 2:=by kernel_rfl
theorem cells5 : Tryz.prog.cellsOf 5 = 1:=by kernel_rfl
set_option maxRecDepth 100000 in
theorem open_pair {H : Type} {enc : TypeId × Value->H} {w : World} {b0 base : Nat} {spare : Nat->Bool} {held : Bool} {r : Reach} {v : Value} {d : DataW H} {ps : List MemPlace} (hval : Value.okWide Tryz.prog w r b0 40 v)
  (h : DataW.Trod enc Tryz.prog w base spare held 40 v d ps) : ∃a b : Int,v = .agg #[.int .u8 a,.int .u8 b]/\(0<=a/\a<=255)/\(0<=b/\b<=255):=by
 simp only [Value.okWide,Tryz.underlying40] at hval
 obtain ⟨cs,rfl,hsz,-⟩:=hval
 obtain ⟨fuel,hf⟩:=h
 obtain ⟨xs,m,-,-,h1,h2,h3⟩:=DataW.trod_array Tryz.underlying40 hf
 rw [cells40] at h1
 have e0:=h3 0 oM
 have e1:=h3 1 oM
 rw [cells5] at e0 e1
 rw [List.getElem?_eq_getElem oM] at e0 e1
 obtain ⟨a,ha,-,wa⟩:=DataW.trod_int Tryz.underlying5 e0
 obtain ⟨b,hb,-,wb⟩:=DataW.trod_int Tryz.underlying5 e1
 simp only [Value.cells] at ha hb h1
 obtain ⟨cl⟩:=cs
 match cl,h1 with
 | [c0,c1],_=>
  simp at ha hb
  subst ha
  subst hb
  simp [Lit.wf,IntKind.min,IntKind.max,IntKind.bits,IntKind.signed] at wa wb
  exact ⟨a,b,rfl,by omega,by omega⟩
end Go.Proofs.YtnocgagoaldfnaaGreat

namespace Go.Proofs.YtnocgagoaldfnaaGreat
open Go.RowKit

def addC (F : Nat->Nat->Int) (i j : Nat) (k : Int) : Nat->Nat->Int:=fun a b=>if b = i then F a i + k * F a j else F a b
def addFu (F : Nat->Nat->Int) (i j : Nat) (k : Int) (c : Nat) : Nat->Nat->Int:=fun a b=>if a = i/\b < c then F i b + k * F j b else F a b
def addCu (F : Nat->Nat->Int) (i j : Nat) (k : Int) (c : Nat) : Nat->Nat->Int:=fun a b=>if b = i/\a < c then F a i + k * F a j else F a b
theorem Only.bset2 {S : List Nat} {w : World} {b i : Nat} {u v : Value} (hb : b ∈ S) (hx : LExt w ((w.setCell ⟨b,i,none⟩ u).setCell ⟨b,i + 1,none⟩ v)) : Only S w ((w.setCell ⟨b,i,none⟩ u).setCell ⟨b,i + 1,none⟩ v):=
 ⟨bset (bset (Below.refl _ _) (Nat.zero_le _) _ _) (Nat.zero_le _) _ _,hx,fun k _ hk=>set2_old _ _ _ _ _ _ _ (fun e=>hk (e ▸ hb))⟩
set_option maxHeartbeats 4000000 in
set_option maxRecDepth 20000 in
theorem combine_any (A kv : Value) (R C i j base : Nat) (bs : List Nat) (F : Nat->Nat->Int) (k : Int) (w : World) (h : RowsO w base A C bs (genM R C F)) (hbl : bs.length = R) (hi : i < R) (hj : j < R) (hij : i ≠ j) (hk : IntV w kv k) (hR : R<=1000000) (hC : C<=1000000)
  (hS : ∀a,a < R->∀b,b < C->Sm (F a b)/\Sm (k * F a b)) (hks : Sm k) :
  Calls Tryz.prog 81 #[.agg #[.int .i64 R,.int .i64 C,A],.agg #[.int .i64 i,.int .i64 j],kv] w fun e w'=>(∃u,e = .returned u)/\Only bs w w'/\RowsO w' base A C bs (genM R C (addF F i j k)):=by
 have HS:=Hk hS
 have HK:=Hk hks
 obtain ⟨kn,ka,kl,kc,kx,rfl,hkx⟩:=id hk
 have HKX:=Lib.hid hkx
 obtain ⟨oo,on,oc,rfl,-,-,-,-⟩:=id h.rows
 have hlts:=h.lts
 have HIJ:=Lib.hid hij
 clear hS hks hkx hij
 go_enter Tryz.func81,Tryz.ntmps81
 go_upto_region 1 with (fail)
 refine wp_world ?_
 intro W0 hW0
 obtain ⟨hB0,T3,T4,T5,hs0⟩:=world3 hW0
 have ho:=h.below hB0
 have hk0:=hk.ext (lx hB0)
 have hO:=Only.of bs hB0
 have hst : genM R C F = genM R C (addFu F i j k 0):=genM_congr fun a _ b _=>by unfold addFu; rw [if_neg oM]
 rw [hst] at ho
 clear hW0 hst
 go_wp2
 go_loopw [6] (fun cv wr=>∃c : Nat,c<=C/\cv = .int .i64 c/\Only bs w wr/\Blk wr w.heap.size 28 #[.int .i64 R,.int .i64 C,.slice oo on oc]/\Blk wr (w.heap.size + 1) 86 #[.int .i64 i,.int .i64 j]/\Blk wr (w.heap.size + 1 + 1) 45 #[.bool kn,.slice ka kl kc]/\IntV wr (.agg #[.bool kn,.slice ka kl kc]) k/\RowsO wr base (.slice oo on oc) C bs (genM R C (addFu F i j k c))) (fun cv _=>C - (intOf cv).toNat)
 case atStart=>exact ⟨0,by omega,rfl,hO,T3,T4,T5,hk0,ho⟩
 case round=>
  obtain ⟨c,hc,rfl,hO,T3,T4,T5,hkw,ho⟩:=hrel
  by_cases hlt : c < C
  ·obtain ⟨g,bi,rfl,hg,hbi,hbi2,o1,ho3⟩:=ho.at_ (i:=i) oM
   obtain ⟨g',bj,hgg,hg',hbj,hbj2,o2,-⟩:=ho.at_ (i:=j) oM
   obtain rfl : g = g':=by injection hgg with hgg; injection hgg
   have hon : i < on/\j < on:=by omega
   obtain ⟨hion,hjon⟩:=hon
   obtain ⟨xs,xa,xl,xc,p1,p2,-,-,hx⟩:=ho.cellAt hbi hlt
   obtain ⟨ys,ya,yl,yc,q1,q2,-,-,hy⟩:=ho.cellAt hbj hlt
   rw [ent_genM hi hlt] at hx
   rw [ent_genM hj hlt] at hy
   have e1 : addFu F i j k c i c = F i c:=by unfold addFu; rw [if_neg oM]
   have e2 : addFu F i j k c j c = F j c:=by unfold addFu; rw [if_neg (fun h=>HIJ h.1.symm)]
   rw [e1] at hx
   rw [e2] at hy
   obtain ⟨f1,f2,f3,f4,f5,f6⟩:=T3.three
   obtain ⟨d1,d2,d3,d4⟩:=T4.two
   obtain ⟨k1,k2,k3,k4⟩:=T5.two
   have lt3:=T3.lt
   have lt4:=T4.lt
   have lt5:=T5.lt
   have HO3:=Lib.hid ho3
   have HZ:=Hk (HS.out i hi c hlt)
   have HZ2:=Hk (HS.out j hj c hlt)
   clear ho3 hgg e1 e2
   go_upto_region 4 with (fail)
   refine wp_region_headed 29 rfl (RI wr (wr.heap.size) _ 45
     [⟨0,13,fun _ v=>v = .pointer (some ⟨w.heap.size,2,none⟩)⟩,⟨1,14,fun _ v=>v = .slice (some ⟨g,0,none⟩) on oc⟩,⟨2,15,fun _ v=>v = .pointer (some ⟨w.heap.size + 1,0,none⟩)⟩,⟨3,16,fun _ v=>v = .int .i64 i⟩,⟨4,17,fun _ v=>v = .pointer (some ⟨g,i,none⟩)⟩,⟨5,18,fun _ v=>v = .slice (some ⟨bi,0,none⟩) C C⟩,⟨6,19,fun _ v=>v = .int .i64 c⟩,⟨7,20,fun _ v=>v = .pointer (some ⟨w.heap.size,2,none⟩)⟩,⟨8,21,fun _ v=>v = .slice (some ⟨g,0,none⟩) on oc⟩,⟨9,22,fun _ v=>v = .pointer (some ⟨w.heap.size + 1,0,none⟩)⟩,⟨10,23,fun _ v=>v = .int .i64 i⟩,⟨11,24,fun _ v=>v = .pointer (some ⟨g,i,none⟩)⟩,⟨12,25,fun _ v=>v = .slice (some ⟨bi,0,none⟩) C C⟩,⟨13,26,fun _ v=>v = .int .i64 c⟩,⟨14,27,fun _ v=>v = .pointer (some ⟨bi,c * 2,none⟩)⟩,⟨15,28,fun _ v=>v = .agg #[.bool xs,.slice xa xl xc]⟩,⟨16,29,fun _ v=>v = .agg #[.bool kn,.slice ka kl kc]⟩,⟨17,30,fun _ v=>v = .pointer (some ⟨w.heap.size,2,none⟩)⟩,⟨18,31,fun _ v=>v = .slice (some ⟨g,0,none⟩) on oc⟩,⟨19,32,fun _ v=>v = .pointer (some ⟨w.heap.size + 1,1,none⟩)⟩,⟨20,33,fun _ v=>v = .int .i64 j⟩,⟨21,34,fun _ v=>v = .pointer (some ⟨g,j,none⟩)⟩,⟨22,35,fun _ v=>v = .slice (some ⟨bj,0,none⟩) C C⟩,⟨23,36,fun _ v=>v = .int .i64 c⟩,⟨24,37,fun _ v=>v = .pointer (some ⟨bj,c * 2,none⟩)⟩,⟨25,38,fun _ v=>v = .agg #[.bool ys,.slice ya yl yc]⟩,⟨26,39,fun w v=>IntV w v (k * F j c)⟩,⟨27,40,fun w v=>IntV w v (F i c + k * F j c)⟩,⟨28,41,fun _ v=>v = .pointer (some ⟨bi,c * 2,none⟩)⟩]
     [] []) kR RI.start ?fin1 ?steps1
   case steps1=>
    refine ⟨?_,?_,?_,?_,?_,?_,?_,?_,?_,?_,?_,?_,?_,?_,?_,?_,?_,?_,?_,?_,?_,?_,?_,?_,?_,?_,?_,?_,?_,trivial⟩ <;> (intro L T wS hL hd hcl hI K hK; try refine sW rfl ?_)
    ·have zt : T[3]? = some (.pointer (some ⟨w.heap.size,0,none⟩)):=hI.keep 3 sI sI
     go_simp
     exact hK _ _ (hI.y mm0 rfl)
    ·obtain ⟨v0,zt0,rfl⟩:=hI.v mm0 (hd 0)
     have cc0:=hI.cell f3 oM nom
     go_simp
     exact hK _ _ (hI.y mm1 rfl)
    ·have zt : T[4]? = some (.pointer (some ⟨w.heap.size + 1,0,none⟩)):=hI.keep 4 sI sI
     go_simp
     exact hK _ _ (hI.y mm2 rfl)
    ·obtain ⟨v2,zt2,rfl⟩:=hI.v mm2 (hd 2)
     have cc0:=hI.cell d1 oM nom
     go_simp
     exact hK _ _ (hI.y mm3 rfl)
    ·obtain ⟨v1,zt1,rfl⟩:=hI.v mm1 (hd 1)
     obtain ⟨v3,zt3,rfl⟩:=hI.v mm3 (hd 3)
     go_simp
     exact hK _ _ (hI.y mm4 rfl)
    ·obtain ⟨v4,zt4,rfl⟩:=hI.v mm4 (hd 4)
     have cc0:=hI.cell o1 oM nom
     go_simp
     exact hK _ _ (hI.y mm5 rfl)
    ·have zt : T[6]? = some (.int .i64 c):=hI.keep 6 sI sI
     go_simp
     exact hK _ _ (hI.y mm6 rfl)
    ·have zt : T[3]? = some (.pointer (some ⟨w.heap.size,0,none⟩)):=hI.keep 3 sI sI
     go_simp
     exact hK _ _ (hI.y mm7 rfl)
    ·obtain ⟨v7,zt7,rfl⟩:=hI.v mm7 (hd 7)
     have cc0:=hI.cell f3 oM nom
     go_simp
     exact hK _ _ (hI.y mm8 rfl)
    ·have zt : T[4]? = some (.pointer (some ⟨w.heap.size + 1,0,none⟩)):=hI.keep 4 sI sI
     go_simp
     exact hK _ _ (hI.y mm9 rfl)
    ·obtain ⟨v9,zt9,rfl⟩:=hI.v mm9 (hd 9)
     have cc0:=hI.cell d1 oM nom
     go_simp
     exact hK _ _ (hI.y mm10 rfl)
    ·obtain ⟨v8,zt8,rfl⟩:=hI.v mm8 (hd 8)
     obtain ⟨v10,zt10,rfl⟩:=hI.v mm10 (hd 10)
     go_simp
     exact hK _ _ (hI.y mm11 rfl)
    ·obtain ⟨v11,zt11,rfl⟩:=hI.v mm11 (hd 11)
     have cc0:=hI.cell o1 oM nom
     go_simp
     exact hK _ _ (hI.y mm12 rfl)
    ·have zt : T[6]? = some (.int .i64 c):=hI.keep 6 sI sI
     go_simp
     exact hK _ _ (hI.y mm13 rfl)
    ·obtain ⟨v12,zt12,rfl⟩:=hI.v mm12 (hd 12)
     obtain ⟨v13,zt13,rfl⟩:=hI.v mm13 (hd 13)
     go_simp
     exact hK _ _ (hI.y mm14 rfl)
    ·obtain ⟨v14,zt14,rfl⟩:=hI.v mm14 (hd 14)
     have cc0:=hI.cell p1 oM nom
     have cc1:=hI.cell p2 oM nom
     go_simp
     exact hK _ _ (hI.y mm15 rfl)
    ·have zt : T[5]? = some (.pointer (some ⟨w.heap.size + 1 + 1,0,none⟩)):=hI.keep 5 sI sI
     have cc0:=hI.cell k1 oM nom
     have cc1:=hI.cell k2 oM nom
     go_simp
     exact hK _ _ (hI.y mm16 rfl)
    ·have zt : T[3]? = some (.pointer (some ⟨w.heap.size,0,none⟩)):=hI.keep 3 sI sI
     go_simp
     exact hK _ _ (hI.y mm17 rfl)
    ·obtain ⟨v17,zt17,rfl⟩:=hI.v mm17 (hd 17)
     have cc0:=hI.cell f3 oM nom
     go_simp
     exact hK _ _ (hI.y mm18 rfl)
    ·have zt : T[4]? = some (.pointer (some ⟨w.heap.size + 1,0,none⟩)):=hI.keep 4 sI sI
     go_simp
     exact hK _ _ (hI.y mm19 rfl)
    ·obtain ⟨v19,zt19,rfl⟩:=hI.v mm19 (hd 19)
     have cc0:=hI.cell d2 oM nom
     go_simp
     exact hK _ _ (hI.y mm20 rfl)
    ·obtain ⟨v18,zt18,rfl⟩:=hI.v mm18 (hd 18)
     obtain ⟨v20,zt20,rfl⟩:=hI.v mm20 (hd 20)
     go_simp
     exact hK _ _ (hI.y mm21 rfl)
    ·obtain ⟨v21,zt21,rfl⟩:=hI.v mm21 (hd 21)
     have cc0:=hI.cell o2 oM nom
     go_simp
     exact hK _ _ (hI.y mm22 rfl)
    ·have zt : T[6]? = some (.int .i64 c):=hI.keep 6 sI sI
     go_simp
     exact hK _ _ (hI.y mm23 rfl)
    ·obtain ⟨v22,zt22,rfl⟩:=hI.v mm22 (hd 22)
     obtain ⟨v23,zt23,rfl⟩:=hI.v mm23 (hd 23)
     go_simp
     exact hK _ _ (hI.y mm24 rfl)
    ·obtain ⟨v24,zt24,rfl⟩:=hI.v mm24 (hd 24)
     have cc0:=hI.cell q1 oM nom
     have cc1:=hI.cell q2 oM nom
     go_simp
     exact hK _ _ (hI.y mm25 rfl)
    ·obtain ⟨v16,zt16,rfl⟩:=hI.v mm16 (hd 16)
     obtain ⟨v25,zt25,rfl⟩:=hI.v mm25 (hd 25)
     go_simp
     refine (r1mul_any _ _ k (F j c) _ (hkw.ext hI.lext) (hy.ext hI.lext) HK.out HZ2.out.1).mono ?_
     rintro e wa ⟨v,rfl,hv,hba⟩
     exact hK _ _ ((hI.world hba).y mm26 hv)
    ·obtain ⟨v15,zt15,rfl⟩:=hI.v mm15 (hd 15)
     obtain ⟨v26,zt26,h26⟩:=hI.v mm26 (hd 26)
     go_simp
     refine (r1add_any _ _ (F i c) (k * F j c) _ (hx.ext hI.lext) h26 HZ.out.1 HZ2.out.2).mono ?_
     rintro e wa ⟨v,rfl,hv,hba⟩
     exact hK _ _ ((hI.world hba).y mm27 hv)
    ·obtain ⟨v5,zt5,rfl⟩:=hI.v mm5 (hd 5)
     obtain ⟨v6,zt6,rfl⟩:=hI.v mm6 (hd 6)
     go_simp
     exact hK _ _ (hI.y mm28 rfl)
   intro T w9 hI
   obtain ⟨va0,q0,rfl⟩:=hI.v mm0 rfl
   obtain ⟨va1,q1,rfl⟩:=hI.v mm1 rfl
   obtain ⟨va2,q2,rfl⟩:=hI.v mm2 rfl
   obtain ⟨va3,q3,rfl⟩:=hI.v mm3 rfl
   obtain ⟨va4,q4,rfl⟩:=hI.v mm4 rfl
   obtain ⟨va5,q5,rfl⟩:=hI.v mm5 rfl
   obtain ⟨va6,q6,rfl⟩:=hI.v mm6 rfl
   obtain ⟨va7,q7,rfl⟩:=hI.v mm7 rfl
   obtain ⟨va8,q8,rfl⟩:=hI.v mm8 rfl
   obtain ⟨va9,q9,rfl⟩:=hI.v mm9 rfl
   obtain ⟨va10,q10,rfl⟩:=hI.v mm10 rfl
   obtain ⟨va11,q11,rfl⟩:=hI.v mm11 rfl
   obtain ⟨va12,q12,rfl⟩:=hI.v mm12 rfl
   obtain ⟨va13,q13,rfl⟩:=hI.v mm13 rfl
   obtain ⟨va14,q14,rfl⟩:=hI.v mm14 rfl
   obtain ⟨va15,q15,rfl⟩:=hI.v mm15 rfl
   obtain ⟨va16,q16,rfl⟩:=hI.v mm16 rfl
   obtain ⟨va17,q17,rfl⟩:=hI.v mm17 rfl
   obtain ⟨va18,q18,rfl⟩:=hI.v mm18 rfl
   obtain ⟨va19,q19,rfl⟩:=hI.v mm19 rfl
   obtain ⟨va20,q20,rfl⟩:=hI.v mm20 rfl
   obtain ⟨va21,q21,rfl⟩:=hI.v mm21 rfl
   obtain ⟨va22,q22,rfl⟩:=hI.v mm22 rfl
   obtain ⟨va23,q23,rfl⟩:=hI.v mm23 rfl
   obtain ⟨va24,q24,rfl⟩:=hI.v mm24 rfl
   obtain ⟨va25,q25,rfl⟩:=hI.v mm25 rfl
   obtain ⟨va26,q26,ha26⟩:=hI.v mm26 rfl
   replace ha26 : IntV w9 va26 (k * F j c):=ha26
   obtain ⟨va27,q27,ha27⟩:=hI.v mm27 rfl
   replace ha27 : IntV w9 va27 (F i c + k * F j c):=ha27
   obtain ⟨va28,q28,rfl⟩:=hI.v mm28 rfl
   have hT:=tmps_set [(13,.pointer (some ⟨w.heap.size,2,none⟩)),(14,.slice (some ⟨g,0,none⟩) on oc),(15,.pointer (some ⟨w.heap.size + 1,0,none⟩)),(16,.int .i64 i),(17,.pointer (some ⟨g,i,none⟩)),(18,.slice (some ⟨bi,0,none⟩) C C),(19,.int .i64 c),(20,.pointer (some ⟨w.heap.size,2,none⟩)),(21,.slice (some ⟨g,0,none⟩) on oc),(22,.pointer (some ⟨w.heap.size + 1,0,none⟩)),(23,.int .i64 i),(24,.pointer (some ⟨g,i,none⟩)),(25,.slice (some ⟨bi,0,none⟩) C C),(26,.int .i64 c),(27,.pointer (some ⟨bi,c * 2,none⟩)),(28,.agg #[.bool xs,.slice xa xl xc]),(29,.agg #[.bool kn,.slice ka kl kc]),(30,.pointer (some ⟨w.heap.size,2,none⟩)),(31,.slice (some ⟨g,0,none⟩) on oc),(32,.pointer (some ⟨w.heap.size + 1,1,none⟩)),(33,.int .i64 j),(34,.pointer (some ⟨g,j,none⟩)),(35,.slice (some ⟨bj,0,none⟩) C C),(36,.int .i64 c),(37,.pointer (some ⟨bj,c * 2,none⟩)),(38,.agg #[.bool ys,.slice ya yl yc]),(39,va26),(40,va27),(41,.pointer (some ⟨bi,c * 2,none⟩))]
    (fun j hj=>hI.keep j (by simp only [List.forall_mem_cons] at hj ⊢; simp [hj]) (by simp only [List.forall_mem_cons] at hj ⊢; simp [hj]))
    (by simp only [List.forall_mem_cons]; simp [q0,q1,q2,q3,q4,q5,q6,q7,q8,q9,q10,q11,q12,q13,q14,q15,q16,q17,q18,q19,q20,q21,q22,q23,q24,q25,q26,q27,q28]) hI.size
   have hlw9:=hI.lext
   have hbw9:=hI.bel (wr.heap.size) oM nom
   have holdw9:=hI.old
   clear hI
   simp only [List.foldl_cons,List.foldl_nil,List.setIfInBounds_toArray,List.set_cons_zero,List.set_cons_succ,ptr] at hT
   subst hT
   clear q0 q1 q2 q3 q4 q5 q6 q7 q8 q9 q10 q11 q12 q13 q14 q15 q16 q17 q18 q19 q20 q21 q22 q23 q24 q25 q26 q27 q28
   simp only [List.drop_succ_cons,List.drop_zero]
   obtain ⟨pn,pa,pl,pc,px,rfl,hpx⟩:=id ha27
   have HPX:=Lib.hid hpx
   clear hpx
   have ho9:=ho.below hbw9
   obtain ⟨sn,sa,sl,sc,z1,z2,z3,z4,-⟩:=ho9.cellAt hbi hlt
   have hbolt:=hlts i bi hbi
   have hset:=ho9.set hbi hlt ha27
   have hO9:=hO.trans (Only.of bs hbw9)
   have hk9:=hkw.ext (lx hbw9)
   have hmem : bi ∈ bs:=List.mem_of_getElem? hbi
   clear p1 p2 q1 q2
   go_wp2
   go_roundw
   case rel=>
    have hq : setM (genM R C (addFu F i j k c)) i c (F i c + k * F j c) = genM R C (addFu F i j k (c + 1)):=by
     rw [setM_genM _ hi hlt]
     exact genM_congr fun a _ b _=>by
      unfold addFu
      by_cases h1 : a = i/\b = c
      ·obtain ⟨rfl,rfl⟩:=h1
       rw [if_pos ⟨rfl,rfl⟩,if_pos oM]
      ·rw [if_neg h1]
       by_cases h2 : a = i/\b < c
       ·rw [if_pos h2,if_pos oM]
       ·rw [if_neg h2,if_neg oM]
    rw [hq] at hset
    exact ⟨c + 1,by omega,by simp,hO9.trans (Only.bset2 hmem hset.2.1),(set2_old _ _ _ _ _ _ _ oM).trans (T3.below hbw9),(set2_old _ _ _ _ _ _ _ oM).trans (T4.below hbw9),(set2_old _ _ _ _ _ _ _ oM).trans (T5.below hbw9),hk9.ext hset.2.1,hset.1⟩
   case measure=>simp [intOf]; omega
  ·obtain rfl : c = C:=by omega
   have hq : genM R c (addFu F i j k c) = genM R c (addF F i j k):=genM_congr fun a _ b hb=>by
    unfold addFu addF
    by_cases h1 : a = i
    ·rw [if_pos ⟨h1,hb⟩,if_pos h1]
    ·rw [if_neg (fun h=>h1 h.1),if_neg h1]
   rw [hq] at ho
   obtain ⟨f1,f2,f3,f4,f5,f6⟩:=T3.three
   obtain ⟨d1,d2,d3,d4⟩:=T4.two
   obtain ⟨k1,k2,k3,k4⟩:=T5.two
   have lt3:=T3.lt
   have lt4:=T4.lt
   have lt5:=T5.lt
   go_wp2
   exact bodyPost_end (results_none rfl _ _ _) rfl ⟨⟨_,rfl⟩,hO,ho⟩
set_option maxHeartbeats 4000000 in
set_option maxRecDepth 20000 in
theorem combineColumns_any (A kv : Value) (R C i j base : Nat) (bs : List Nat) (F : Nat->Nat->Int) (k : Int) (w : World) (h : RowsO w base A C bs (genM R C F)) (hbl : bs.length = R) (hi : i < C) (hj : j < C) (hij : i ≠ j) (hk : IntV w kv k) (hR : R<=1000000) (hC : C<=1000000)
  (hS : ∀a,a < R->∀b,b < C->Sm (F a b)/\Sm (k * F a b)) (hks : Sm k) :
  Calls Tryz.prog 82 #[.agg #[.int .i64 R,.int .i64 C,A],.agg #[.int .i64 i,.int .i64 j],kv] w fun e w'=>(∃u,e = .returned u)/\Only bs w w'/\RowsO w' base A C bs (genM R C (addC F i j k)):=by
 have HS:=Hk hS
 have HK:=Hk hks
 obtain ⟨kn,ka,kl,kc,kx,rfl,hkx⟩:=id hk
 have HKX:=Lib.hid hkx
 obtain ⟨oo,on,oc,rfl,-,-,-,-⟩:=id h.rows
 have hlts:=h.lts
 have HIJ:=Lib.hid hij
 clear hS hks hkx hij
 go_enter Tryz.func82,Tryz.ntmps82
 go_upto_region 1 with (fail)
 refine wp_world ?_
 intro W0 hW0
 obtain ⟨hB0,T3,T4,T5,hs0⟩:=world3 hW0
 have ho:=h.below hB0
 have hk0:=hk.ext (lx hB0)
 have hO:=Only.of bs hB0
 have hst : genM R C F = genM R C (addCu F i j k 0):=genM_congr fun a _ b _=>by unfold addCu; rw [if_neg oM]
 rw [hst] at ho
 clear hW0 hst
 go_wp2
 go_loopw [6] (fun cv wr=>∃c : Nat,c<=R/\cv = .int .i64 c/\Only bs w wr/\Blk wr w.heap.size 28 #[.int .i64 R,.int .i64 C,.slice oo on oc]/\Blk wr (w.heap.size + 1) 86 #[.int .i64 i,.int .i64 j]/\Blk wr (w.heap.size + 1 + 1) 45 #[.bool kn,.slice ka kl kc]/\IntV wr (.agg #[.bool kn,.slice ka kl kc]) k/\RowsO wr base (.slice oo on oc) C bs (genM R C (addCu F i j k c))) (fun cv _=>R - (intOf cv).toNat)
 case atStart=>exact ⟨0,by omega,rfl,hO,T3,T4,T5,hk0,ho⟩
 case round=>
  obtain ⟨c,hc,rfl,hO,T3,T4,T5,hkw,ho⟩:=hrel
  by_cases hlt : c < R
  ·obtain ⟨g,bi,rfl,hg,hbi,hbi2,o1,ho3⟩:=ho.at_ (i:=c) oM
   have hion : c < on:=by omega
   obtain ⟨xs,xa,xl,xc,p1,p2,-,-,hx⟩:=ho.cellAt hbi hi
   obtain ⟨ys,ya,yl,yc,q1,q2,-,-,hy⟩:=ho.cellAt hbi hj
   rw [ent_genM hlt hi] at hx
   rw [ent_genM hlt hj] at hy
   have e1 : addCu F i j k c c i = F c i:=by unfold addCu; rw [if_neg oM]
   have e2 : addCu F i j k c c j = F c j:=by unfold addCu; rw [if_neg (fun h=>HIJ h.1.symm)]
   rw [e1] at hx
   rw [e2] at hy
   obtain ⟨f1,f2,f3,f4,f5,f6⟩:=T3.three
   obtain ⟨d1,d2,d3,d4⟩:=T4.two
   obtain ⟨k1,k2,k3,k4⟩:=T5.two
   have lt3:=T3.lt
   have lt4:=T4.lt
   have lt5:=T5.lt
   have HO3:=Lib.hid ho3
   have HZ:=Hk (HS.out c hlt i hi)
   have HZ2:=Hk (HS.out c hlt j hj)
   clear ho3 e1 e2
   go_upto_region 4 with (fail)
   refine wp_region_headed 29 rfl (RI wr (wr.heap.size) _ 45
     [⟨0,13,fun _ v=>v = .pointer (some ⟨w.heap.size,2,none⟩)⟩,⟨1,14,fun _ v=>v = .slice (some ⟨g,0,none⟩) on oc⟩,⟨2,15,fun _ v=>v = .int .i64 c⟩,⟨3,16,fun _ v=>v = .pointer (some ⟨g,c,none⟩)⟩,⟨4,17,fun _ v=>v = .slice (some ⟨bi,0,none⟩) C C⟩,⟨5,18,fun _ v=>v = .pointer (some ⟨w.heap.size + 1,0,none⟩)⟩,⟨6,19,fun _ v=>v = .int .i64 i⟩,⟨7,20,fun _ v=>v = .pointer (some ⟨w.heap.size,2,none⟩)⟩,⟨8,21,fun _ v=>v = .slice (some ⟨g,0,none⟩) on oc⟩,⟨9,22,fun _ v=>v = .int .i64 c⟩,⟨10,23,fun _ v=>v = .pointer (some ⟨g,c,none⟩)⟩,⟨11,24,fun _ v=>v = .slice (some ⟨bi,0,none⟩) C C⟩,⟨12,25,fun _ v=>v = .pointer (some ⟨w.heap.size + 1,0,none⟩)⟩,⟨13,26,fun _ v=>v = .int .i64 i⟩,⟨14,27,fun _ v=>v = .pointer (some ⟨bi,i * 2,none⟩)⟩,⟨15,28,fun _ v=>v = .agg #[.bool xs,.slice xa xl xc]⟩,⟨16,29,fun _ v=>v = .agg #[.bool kn,.slice ka kl kc]⟩,⟨17,30,fun _ v=>v = .pointer (some ⟨w.heap.size,2,none⟩)⟩,⟨18,31,fun _ v=>v = .slice (some ⟨g,0,none⟩) on oc⟩,⟨19,32,fun _ v=>v = .int .i64 c⟩,⟨20,33,fun _ v=>v = .pointer (some ⟨g,c,none⟩)⟩,⟨21,34,fun _ v=>v = .slice (some ⟨bi,0,none⟩) C C⟩,⟨22,35,fun _ v=>v = .pointer (some ⟨w.heap.size + 1,1,none⟩)⟩,⟨23,36,fun _ v=>v = .int .i64 j⟩,⟨24,37,fun _ v=>v = .pointer (some ⟨bi,j * 2,none⟩)⟩,⟨25,38,fun _ v=>v = .agg #[.bool ys,.slice ya yl yc]⟩,⟨26,39,fun w v=>IntV w v (k * F c j)⟩,⟨27,40,fun w v=>IntV w v (F c i + k * F c j)⟩,⟨28,41,fun _ v=>v = .pointer (some ⟨bi,i * 2,none⟩)⟩]
     [] []) kR RI.start ?fin2 ?steps2
   case steps2=>
    refine ⟨?_,?_,?_,?_,?_,?_,?_,?_,?_,?_,?_,?_,?_,?_,?_,?_,?_,?_,?_,?_,?_,?_,?_,?_,?_,?_,?_,?_,?_,trivial⟩ <;> (intro L T wS hL hd hcl hI K hK; try refine sW rfl ?_)
    ·have zt : T[3]? = some (.pointer (some ⟨w.heap.size,0,none⟩)):=hI.keep 3 sI sI
     go_simp
     exact hK _ _ (hI.y mm0 rfl)
    ·obtain ⟨v0,zt0,rfl⟩:=hI.v mm0 (hd 0)
     have cc0:=hI.cell f3 oM nom
     go_simp
     exact hK _ _ (hI.y mm1 rfl)
    ·have zt : T[6]? = some (.int .i64 c):=hI.keep 6 sI sI
     go_simp
     exact hK _ _ (hI.y mm2 rfl)
    ·obtain ⟨v1,zt1,rfl⟩:=hI.v mm1 (hd 1)
     obtain ⟨v2,zt2,rfl⟩:=hI.v mm2 (hd 2)
     go_simp
     exact hK _ _ (hI.y mm3 rfl)
    ·obtain ⟨v3,zt3,rfl⟩:=hI.v mm3 (hd 3)
     have cc0:=hI.cell o1 oM nom
     go_simp
     exact hK _ _ (hI.y mm4 rfl)
    ·have zt : T[4]? = some (.pointer (some ⟨w.heap.size + 1,0,none⟩)):=hI.keep 4 sI sI
     go_simp
     exact hK _ _ (hI.y mm5 rfl)
    ·obtain ⟨v5,zt5,rfl⟩:=hI.v mm5 (hd 5)
     have cc0:=hI.cell d1 oM nom
     go_simp
     exact hK _ _ (hI.y mm6 rfl)
    ·have zt : T[3]? = some (.pointer (some ⟨w.heap.size,0,none⟩)):=hI.keep 3 sI sI
     go_simp
     exact hK _ _ (hI.y mm7 rfl)
    ·obtain ⟨v7,zt7,rfl⟩:=hI.v mm7 (hd 7)
     have cc0:=hI.cell f3 oM nom
     go_simp
     exact hK _ _ (hI.y mm8 rfl)
    ·have zt : T[6]? = some (.int .i64 c):=hI.keep 6 sI sI
     go_simp
     exact hK _ _ (hI.y mm9 rfl)
    ·obtain ⟨v8,zt8,rfl⟩:=hI.v mm8 (hd 8)
     obtain ⟨v9,zt9,rfl⟩:=hI.v mm9 (hd 9)
     go_simp
     exact hK _ _ (hI.y mm10 rfl)
    ·obtain ⟨v10,zt10,rfl⟩:=hI.v mm10 (hd 10)
     have cc0:=hI.cell o1 oM nom
     go_simp
     exact hK _ _ (hI.y mm11 rfl)
    ·have zt : T[4]? = some (.pointer (some ⟨w.heap.size + 1,0,none⟩)):=hI.keep 4 sI sI
     go_simp
     exact hK _ _ (hI.y mm12 rfl)
    ·obtain ⟨v12,zt12,rfl⟩:=hI.v mm12 (hd 12)
     have cc0:=hI.cell d1 oM nom
     go_simp
     exact hK _ _ (hI.y mm13 rfl)
    ·obtain ⟨v11,zt11,rfl⟩:=hI.v mm11 (hd 11)
     obtain ⟨v13,zt13,rfl⟩:=hI.v mm13 (hd 13)
     go_simp
     exact hK _ _ (hI.y mm14 rfl)
    ·obtain ⟨v14,zt14,rfl⟩:=hI.v mm14 (hd 14)
     have cc0:=hI.cell p1 oM nom
     have cc1:=hI.cell p2 oM nom
     go_simp
     exact hK _ _ (hI.y mm15 rfl)
    ·have zt : T[5]? = some (.pointer (some ⟨w.heap.size + 1 + 1,0,none⟩)):=hI.keep 5 sI sI
     have cc0:=hI.cell k1 oM nom
     have cc1:=hI.cell k2 oM nom
     go_simp
     exact hK _ _ (hI.y mm16 rfl)
    ·have zt : T[3]? = some (.pointer (some ⟨w.heap.size,0,none⟩)):=hI.keep 3 sI sI
     go_simp
     exact hK _ _ (hI.y mm17 rfl)
    ·obtain ⟨v17,zt17,rfl⟩:=hI.v mm17 (hd 17)
     have cc0:=hI.cell f3 oM nom
     go_simp
     exact hK _ _ (hI.y mm18 rfl)
    ·have zt : T[6]? = some (.int .i64 c):=hI.keep 6 sI sI
     go_simp
     exact hK _ _ (hI.y mm19 rfl)
    ·obtain ⟨v18,zt18,rfl⟩:=hI.v mm18 (hd 18)
     obtain ⟨v19,zt19,rfl⟩:=hI.v mm19 (hd 19)
     go_simp
     exact hK _ _ (hI.y mm20 rfl)
    ·obtain ⟨v20,zt20,rfl⟩:=hI.v mm20 (hd 20)
     have cc0:=hI.cell o1 oM nom
     go_simp
     exact hK _ _ (hI.y mm21 rfl)
    ·have zt : T[4]? = some (.pointer (some ⟨w.heap.size + 1,0,none⟩)):=hI.keep 4 sI sI
     go_simp
     exact hK _ _ (hI.y mm22 rfl)
    ·obtain ⟨v22,zt22,rfl⟩:=hI.v mm22 (hd 22)
     have cc0:=hI.cell d2 oM nom
     go_simp
     exact hK _ _ (hI.y mm23 rfl)
    ·obtain ⟨v21,zt21,rfl⟩:=hI.v mm21 (hd 21)
     obtain ⟨v23,zt23,rfl⟩:=hI.v mm23 (hd 23)
     go_simp
     exact hK _ _ (hI.y mm24 rfl)
    ·obtain ⟨v24,zt24,rfl⟩:=hI.v mm24 (hd 24)
     have cc0:=hI.cell q1 oM nom
     have cc1:=hI.cell q2 oM nom
     go_simp
     exact hK _ _ (hI.y mm25 rfl)
    ·obtain ⟨v16,zt16,rfl⟩:=hI.v mm16 (hd 16)
     obtain ⟨v25,zt25,rfl⟩:=hI.v mm25 (hd 25)
     go_simp
     refine (r1mul_any _ _ k (F c j) _ (hkw.ext hI.lext) (hy.ext hI.lext) HK.out HZ2.out.1).mono ?_
     rintro e wa ⟨v,rfl,hv,hba⟩
     exact hK _ _ ((hI.world hba).y mm26 hv)
    ·obtain ⟨v15,zt15,rfl⟩:=hI.v mm15 (hd 15)
     obtain ⟨v26,zt26,h26⟩:=hI.v mm26 (hd 26)
     go_simp
     refine (r1add_any _ _ (F c i) (k * F c j) _ (hx.ext hI.lext) h26 HZ.out.1 HZ2.out.2).mono ?_
     rintro e wa ⟨v,rfl,hv,hba⟩
     exact hK _ _ ((hI.world hba).y mm27 hv)
    ·obtain ⟨v4,zt4,rfl⟩:=hI.v mm4 (hd 4)
     obtain ⟨v6,zt6,rfl⟩:=hI.v mm6 (hd 6)
     go_simp
     exact hK _ _ (hI.y mm28 rfl)
   intro T w9 hI
   obtain ⟨va0,q0,rfl⟩:=hI.v mm0 rfl
   obtain ⟨va1,q1,rfl⟩:=hI.v mm1 rfl
   obtain ⟨va2,q2,rfl⟩:=hI.v mm2 rfl
   obtain ⟨va3,q3,rfl⟩:=hI.v mm3 rfl
   obtain ⟨va4,q4,rfl⟩:=hI.v mm4 rfl
   obtain ⟨va5,q5,rfl⟩:=hI.v mm5 rfl
   obtain ⟨va6,q6,rfl⟩:=hI.v mm6 rfl
   obtain ⟨va7,q7,rfl⟩:=hI.v mm7 rfl
   obtain ⟨va8,q8,rfl⟩:=hI.v mm8 rfl
   obtain ⟨va9,q9,rfl⟩:=hI.v mm9 rfl
   obtain ⟨va10,q10,rfl⟩:=hI.v mm10 rfl
   obtain ⟨va11,q11,rfl⟩:=hI.v mm11 rfl
   obtain ⟨va12,q12,rfl⟩:=hI.v mm12 rfl
   obtain ⟨va13,q13,rfl⟩:=hI.v mm13 rfl
   obtain ⟨va14,q14,rfl⟩:=hI.v mm14 rfl
   obtain ⟨va15,q15,rfl⟩:=hI.v mm15 rfl
   obtain ⟨va16,q16,rfl⟩:=hI.v mm16 rfl
   obtain ⟨va17,q17,rfl⟩:=hI.v mm17 rfl
   obtain ⟨va18,q18,rfl⟩:=hI.v mm18 rfl
   obtain ⟨va19,q19,rfl⟩:=hI.v mm19 rfl
   obtain ⟨va20,q20,rfl⟩:=hI.v mm20 rfl
   obtain ⟨va21,q21,rfl⟩:=hI.v mm21 rfl
   obtain ⟨va22,q22,rfl⟩:=hI.v mm22 rfl
   obtain ⟨va23,q23,rfl⟩:=hI.v mm23 rfl
   obtain ⟨va24,q24,rfl⟩:=hI.v mm24 rfl
   obtain ⟨va25,q25,rfl⟩:=hI.v mm25 rfl
   obtain ⟨va26,q26,ha26⟩:=hI.v mm26 rfl
   replace ha26 : IntV w9 va26 (k * F c j):=ha26
   obtain ⟨va27,q27,ha27⟩:=hI.v mm27 rfl
   replace ha27 : IntV w9 va27 (F c i + k * F c j):=ha27
   obtain ⟨va28,q28,rfl⟩:=hI.v mm28 rfl
   have hT:=tmps_set [(13,.pointer (some ⟨w.heap.size,2,none⟩)),(14,.slice (some ⟨g,0,none⟩) on oc),(15,.int .i64 c),(16,.pointer (some ⟨g,c,none⟩)),(17,.slice (some ⟨bi,0,none⟩) C C),(18,.pointer (some ⟨w.heap.size + 1,0,none⟩)),(19,.int .i64 i),(20,.pointer (some ⟨w.heap.size,2,none⟩)),(21,.slice (some ⟨g,0,none⟩) on oc),(22,.int .i64 c),(23,.pointer (some ⟨g,c,none⟩)),(24,.slice (some ⟨bi,0,none⟩) C C),(25,.pointer (some ⟨w.heap.size + 1,0,none⟩)),(26,.int .i64 i),(27,.pointer (some ⟨bi,i * 2,none⟩)),(28,.agg #[.bool xs,.slice xa xl xc]),(29,.agg #[.bool kn,.slice ka kl kc]),(30,.pointer (some ⟨w.heap.size,2,none⟩)),(31,.slice (some ⟨g,0,none⟩) on oc),(32,.int .i64 c),(33,.pointer (some ⟨g,c,none⟩)),(34,.slice (some ⟨bi,0,none⟩) C C),(35,.pointer (some ⟨w.heap.size + 1,1,none⟩)),(36,.int .i64 j),(37,.pointer (some ⟨bi,j * 2,none⟩)),(38,.agg #[.bool ys,.slice ya yl yc]),(39,va26),(40,va27),(41,.pointer (some ⟨bi,i * 2,none⟩))]
    (fun j hj=>hI.keep j (by simp only [List.forall_mem_cons] at hj ⊢; simp [hj]) (by simp only [List.forall_mem_cons] at hj ⊢; simp [hj]))
    (by simp only [List.forall_mem_cons]; simp [q0,q1,q2,q3,q4,q5,q6,q7,q8,q9,q10,q11,q12,q13,q14,q15,q16,q17,q18,q19,q20,q21,q22,q23,q24,q25,q26,q27,q28]) hI.size
   have hlw9:=hI.lext
   have hbw9:=hI.bel (wr.heap.size) oM nom
   have holdw9:=hI.old
   clear hI
   simp only [List.foldl_cons,List.foldl_nil,List.setIfInBounds_toArray,List.set_cons_zero,List.set_cons_succ,ptr] at hT
   subst hT
   clear q0 q1 q2 q3 q4 q5 q6 q7 q8 q9 q10 q11 q12 q13 q14 q15 q16 q17 q18 q19 q20 q21 q22 q23 q24 q25 q26 q27 q28
   simp only [List.drop_succ_cons,List.drop_zero]
   obtain ⟨pn,pa,pl,pc,px,rfl,hpx⟩:=id ha27
   have HPX:=Lib.hid hpx
   clear hpx
   have ho9:=ho.below hbw9
   obtain ⟨sn,sa,sl,sc,z1,z2,z3,z4,-⟩:=ho9.cellAt hbi hi
   have hbolt:=hlts c bi hbi
   have hset:=ho9.set hbi hi ha27
   have hO9:=hO.trans (Only.of bs hbw9)
   have hk9:=hkw.ext (lx hbw9)
   have hmem : bi ∈ bs:=List.mem_of_getElem? hbi
   clear p1 p2 q1 q2
   go_wp2
   go_roundw
   case rel=>
    have hq : setM (genM R C (addCu F i j k c)) c i (F c i + k * F c j) = genM R C (addCu F i j k (c + 1)):=by
     rw [setM_genM _ hlt hi]
     exact genM_congr fun a _ b _=>by
      unfold addCu
      by_cases h1 : a = c/\b = i
      ·obtain ⟨rfl,rfl⟩:=h1
       rw [if_pos ⟨rfl,rfl⟩,if_pos oM]
      ·rw [if_neg h1]
       by_cases h2 : b = i/\a < c
       ·rw [if_pos h2,if_pos oM]
       ·rw [if_neg h2,if_neg oM]
    rw [hq] at hset
    exact ⟨c + 1,by omega,by simp,hO9.trans (Only.bset2 hmem hset.2.1),(set2_old _ _ _ _ _ _ _ oM).trans (T3.below hbw9),(set2_old _ _ _ _ _ _ _ oM).trans (T4.below hbw9),(set2_old _ _ _ _ _ _ _ oM).trans (T5.below hbw9),hk9.ext hset.2.1,hset.1⟩
   case measure=>simp [intOf]; omega
  ·obtain rfl : c = R:=by omega
   have hq : genM c C (addCu F i j k c) = genM c C (addC F i j k):=genM_congr fun a ha b _=>by
    unfold addCu addC
    by_cases h1 : b = i
    ·rw [if_pos ⟨h1,ha⟩,if_pos h1]
    ·rw [if_neg (fun h=>h1 h.1),if_neg h1]
   rw [hq] at ho
   obtain ⟨f1,f2,f3,f4,f5,f6⟩:=T3.three
   obtain ⟨d1,d2,d3,d4⟩:=T4.two
   obtain ⟨k1,k2,k3,k4⟩:=T5.two
   have lt3:=T3.lt
   have lt4:=T4.lt
   have lt5:=T5.lt
   go_wp2
   exact bodyPost_end (results_none rfl _ _ _) rfl ⟨⟨_,rfl⟩,hO,ho⟩
def StV (w : World) (v : Value) (ls : List (Nat × Nat × Nat × Int)) : Prop:=
 ∃ao n cap,v = .slice ao n cap/\ls.length = n/\n<=cap/\cap<=9223372036854775807/\(∀s ∈ ls,s.1<=255/\s.2.1<=255/\s.2.2.1<=255/\-128<=s.2.2.2/\s.2.2.2<=127) ∧
  (ls ≠ []->∃b off,ao = some ⟨b,off,none⟩/\b < w.heap.size/\∀(k : Nat) (s : Nat × Nat × Nat × Int),ls[k]? = some s->w.cell? ⟨b,off + k * 4,none⟩ = some (.int .u8 s.1)/\w.cell? ⟨b,off + k * 4 + 1,none⟩ = some (.int .u8 s.2.1)/\w.cell? ⟨b,off + k * 4 + 2,none⟩ = some (.int .u8 s.2.2.1)/\w.cell? ⟨b,off + k * 4 + 3,none⟩ = some (.int .i8 s.2.2.2))
theorem StV.cell {w : World} {ao : Option Addr} {n cap : Nat} {ls : List (Nat × Nat × Nat × Int)} (h : StV w (.slice ao n cap) ls) {k : Nat} (hk : k < ls.length) :
  ∃b off,∃p q r : Nat,∃z : Int,ao = some ⟨b,off,none⟩/\b < w.heap.size/\p<=255/\q<=255/\r<=255/\-128<=z/\z<=127/\w.cell? ⟨b,off + k * 4,none⟩ = some (.int .u8 p)/\w.cell? ⟨b,off + k * 4 + 1,none⟩ = some (.int .u8 q)/\w.cell? ⟨b,off + k * 4 + 2,none⟩ = some (.int .u8 r)/\w.cell? ⟨b,off + k * 4 + 3,none⟩ = some (.int .i8 z):=by
 obtain ⟨ao',n',cap',h1,h2,h3,h4,h5,h6⟩:=h
 injection h1 with e1 e2 e3
 subst e1
 obtain ⟨b,off,e,hb,hc⟩:=h6 (by rintro rfl; simp at hk)
 have hz:=List.getElem?_eq_getElem hk
 obtain ⟨g1,g2,g3,g4,g5⟩:=h5 _ (List.mem_of_getElem? hz)
 obtain ⟨c1,c2,c3,c4⟩:=hc _ _ hz
 exact ⟨b,off,_,_,_,_,e,hb,g1,g2,g3,g4,g5,c1,c2,c3,c4⟩
theorem StV.below {w w' : World} {v : Value} {ls : List (Nat × Nat × Nat × Int)} (h : StV w v ls) (hb : Below w.heap.size w w') : StV w' v ls:=by
 obtain ⟨ao,n,cap,h1,h2,h3,h4,h5,h6⟩:=h
 refine ⟨ao,n,cap,h1,h2,h3,h4,h5,fun hne=>?_⟩
 obtain ⟨b,off,e,hlt,hc⟩:=h6 hne
 refine ⟨b,off,e,Nat.lt_of_lt_of_le hlt hb.size,fun k s hz=>?_⟩
 obtain ⟨c1,c2,c3,c4⟩:=hc k s hz
 exact ⟨(hb.cell (p:=⟨b,off + k * 4,none⟩) hlt).trans c1,(hb.cell (p:=⟨b,off + k * 4 + 1,none⟩) hlt).trans c2,(hb.cell (p:=⟨b,off + k * 4 + 2,none⟩) hlt).trans c3,(hb.cell (p:=⟨b,off + k * 4 + 3,none⟩) hlt).trans c4⟩
theorem Fac.refl (R C : Nat) (F : Nat->Nat->Int) : Fac R C F F:=⟨idf,idf,fun a ha b hb=>by
 rw [<-idf_sum ha fun s=>sumN C fun t=>F s t * idf t b,sum_idf hb]⟩
theorem Fac.congr {R C : Nat} {F G G' : Nat->Nat->Int} (h : Fac R C F G) (e : ∀a,a < R->∀b,b < C->G' a b = G a b) : Fac R C F G':=by
 obtain ⟨P,Q,h⟩:=h
 exact ⟨P,Q,fun a ha b hb=>(e a ha b hb).trans (h a ha b hb)⟩
theorem Fac.trans {R C : Nat} {F G H : Nat->Nat->Int} (h : Fac R C F G) (k : Fac R C G H) : Fac R C F H:=by
 obtain ⟨P,Q,h⟩:=h
 obtain ⟨P',Q',k⟩:=k
 refine ⟨fun a s=>sumN R fun m=>P' a m * P m s,fun t b=>sumN C fun m=>Q t m * Q' m b,fun a ha b hb=>?_⟩
 rw [k a ha b hb]
 have e1 : ∀m,m < R->sumN C (fun t=>G m t * Q' t b) = sumN R fun s=>P m s * sumN C fun t=>F s t * sumN C fun m'=>Q t m' * Q' m' b:=fun m hm=>by
  have e2 : ∀t,t < C->G m t * Q' t b = sumN R fun s=>P m s * sumN C fun t'=>F s t' * (Q t' t * Q' t b):=fun t ht=>by
   rw [h m hm t ht,<-sumN_mulr]
   refine sumN_congr fun s _=>?_
   rw [Int.mul_assoc,<-sumN_mulr]
   congr 1
   exact sumN_congr fun t' _=>Int.mul_assoc _ _ _
  rw [sumN_congr e2,sumN_swap]
  refine sumN_congr fun s _=>?_
  rw [sumN_mul,sumN_swap]
  congr 1
  exact sumN_congr fun t' _=>sumN_mul _ _ _
 have e3 : ∀m,m < R->P' a m * sumN C (fun t=>G m t * Q' t b) = sumN R fun s=>(P' a m * P m s) * sumN C fun t=>F s t * sumN C fun m'=>Q t m' * Q' m' b:=fun m hm=>by
  rw [e1 m hm,<-sumN_mul]
  exact sumN_congr fun s _=>(Int.mul_assoc _ _ _).symm
 rw [sumN_congr e3,sumN_swap]
 exact sumN_congr fun s _=>sumN_mulr _ _ _
theorem Fac.rows {R C : Nat} {F G P : Nat->Nat->Int} (h : ∀a,a < R->∀b,b < C->G a b = sumN R fun s=>P a s * F s b) : Fac R C F G:=⟨P,idf,fun a ha b hb=>by
 rw [h a ha b hb]
 exact sumN_congr fun s _=>by rw [sum_idf hb fun t=>F s t]⟩
theorem Fac.tr {R C : Nat} {F G : Nat->Nat->Int} (h : Fac R C F G) : Fac C R (trF F) (trF G):=by
 obtain ⟨P,Q,h⟩:=h
 refine ⟨fun a s=>Q s a,fun t b=>P b t,fun a ha b hb=>?_⟩
 show G b a = _
 rw [h b hb a ha]
 simp only [<-sumN_mul]
 rw [sumN_swap]
 refine sumN_congr fun t _=>sumN_congr fun s _=>?_
 show P b s * (F s t * Q t a) = Q t a * (F s t * P b s)
 grind
theorem Fac.ops {R C : Nat} {l : List Op} (hl : okOps R l) (F : Nat->Nat->Int) : Fac R C F (opsF l F)/\Fac R C (opsF l F) F:=
 ⟨Fac.rows (P:=opsF l idf) fun a ha b _=>ops_mat hl F a ha b,Fac.rows (P:=fun a s=>opsD l idf s a) fun a ha b _=>ops_back hl F a ha b⟩
structure ChI (R C M i : Nat) (F0 F : Nat->Nat->Int) : Prop where
 to_ : Fac R C F0 F
 back : Fac R C F F0
 le : leM (M * 3 ^ i) R C F
theorem ChI.next {R C M i : Nat} {F0 F G : Nat->Nat->Int} (h : ChI R C M i F0 F) (h1 : Fac R C F G) (h2 : Fac R C G F) (h3 : leM (M * 3 ^ i * 3) R C G) : ChI R C M (i + 1) F0 G:=
 ⟨h.to_.trans h1,h2.trans h.back,by rwa [Nat.pow_succ,<-Nat.mul_assoc]⟩
theorem ChI.same {R C M i : Nat} {F0 F : Nat->Nat->Int} (h : ChI R C M i F0 F) : ChI R C M (i + 1) F0 F:=h.next (Fac.refl _ _ _) (Fac.refl _ _ _) (h.le.mono oM)
theorem ChI.add {R C M i x y : Nat} {k : Int} {F0 F : Nat->Nat->Int} (h : ChI R C M i F0 F) (hx : x < R) (hy : y < R) (hxy : x ≠ y) (hk : k.natAbs<=2) : ChI R C M (i + 1) F0 (addF F x y k):=by
 obtain ⟨h1,h2⟩:=Fac.ops (C:=C) (l:=[.add x y k]) (okOps.cons ⟨hx,hy,hxy⟩ okOps.nil) F
 exact h.next h1 h2 ((leM_add h.le hx hy).mono (Nat.mul_le_mul_left _ oM))
theorem ChI.swap {R C M i x y : Nat} {F0 F : Nat->Nat->Int} (h : ChI R C M i F0 F) (hx : x < R) (hy : y < R) : ChI R C M (i + 1) F0 (fun a b=>F (swp x y a) b):=by
 obtain ⟨h1,h2⟩:=Fac.ops (C:=C) (l:=[.swap x y]) (okOps.cons ⟨hx,hy⟩ okOps.nil) F
 exact h.next h1 h2 fun a ha b hb=>Nat.le_trans (h.le _ (swp_lt hx hy ha) b hb) oM
theorem ChI.addc {R C M i x y : Nat} {k : Int} {F0 F : Nat->Nat->Int} (h : ChI R C M i F0 F) (hx : x < C) (hy : y < C) (hxy : x ≠ y) (hk : k.natAbs<=2) : ChI R C M (i + 1) F0 (addC F x y k):=by
 obtain ⟨h1,h2⟩:=Fac.ops (C:=R) (l:=[.add x y k]) (okOps.cons ⟨hx,hy,hxy⟩ okOps.nil) (trF F)
 exact h.next h1.tr h2.tr (leM_tr ((leM_add (leM_tr h.le) hx hy).mono (Nat.mul_le_mul_left _ oM)))
def swnF (F : Nat->Nat->Int) (x y : Nat) : Nat->Nat->Int:=fun a b=>if b = x then -(F a y) else if b = y then F a x else F a b
def swnU (F : Nat->Nat->Int) (x y r : Nat) : Nat->Nat->Int:=fun a b=>if a < r then swnF F x y a b else F a b
theorem ChI.swn {R C M i x y : Nat} {F0 F : Nat->Nat->Int} (h : ChI R C M i F0 F) (hx : x < C) (hy : y < C) (hxy : x ≠ y) : ChI R C M (i + 1) F0 (swnF F x y):=by
 obtain ⟨h1,h2⟩:=Fac.ops (C:=R) (l:=[.swap x y,.neg x]) (okOps.cons ⟨hx,hy⟩ (okOps.cons hx okOps.nil)) (trF F)
 have e : trF (opsF [.swap x y,.neg x] (trF F)) = swnF F x y:=by
  funext a b
  show negF (swpF (trF F) x y) x b a = _
  unfold negF swpF swp trF swnF
  by_cases e1 : b = x
  ·rw [if_pos e1,if_pos e1,if_pos e1]
  ·rw [if_neg e1,if_neg e1,if_neg e1]
   split <;> rfl
 have h1:=h1.tr
 have h2:=h2.tr
 rw [e] at h1 h2
 refine h.next h1 h2 fun a ha b hb=>?_
 unfold swnF
 have g1:=h.le a ha x hx
 have g2:=h.le a ha y hy
 have g3:=h.le a ha b hb
 split
 ·rw [Int.natAbs_neg]; omega
 ·split <;> omega
theorem Blk.ne {w : World} {a b : Nat} {T T' : TypeId} {cs cs' : Array Value} (h : Blk w a T cs) (k : Blk w b T' cs') (hT : T ≠ T') : a ≠ b:=by
 rintro rfl
 unfold Blk at h k
 rw [h] at k
 injection k with k
 injection k with k1 k2
 exact hT k2
theorem RowsO.blk {w : World} {base g n cap C : Nat} {bs : List Nat} {M : List (List Int)} (h : RowsO w base (.slice (some ⟨g,0,none⟩) n cap) C bs M) : base<=g/\∃cs,Blk w g tR cs:=by
 rcases h.own.2 with ⟨e,-⟩ | ⟨g',cap',cur,e,e2,e3,-⟩
 ·cases e
 ·injection e with e8 e9 e10
  injection e8 with e8
  injection e8 with e8
  subst e8
  exact ⟨e2,cur,e3⟩
theorem RowsO.bases {w : World} {base : Nat} {A : Value} {C : Nat} {bs : List Nat} {M : List (List Int)} (h : RowsO w base A C bs M) : ∀b ∈ bs,base<=b:=by
 intro b hb
 obtain ⟨i,hi,e⟩:=List.getElem_of_mem hb
 have hiM : i < M.length:=by rw [h.len]; exact hi
 exact (h.row i b M[i] (by rw [List.getElem?_eq_getElem hi,e]) (List.getElem?_eq_getElem hiM)).1
theorem Only.below {S : List Nat} {B : Nat} {w a b : World} (h : Below B w a) (ho : Only S a b) (hS : ∀k ∈ S,B<=k) (hsz : B<=a.heap.size) : Below B w b:=
 ⟨ho.bel.os.trans h.os,ho.bel.tape.trans h.tape,ho.bel.output.trans h.output,Nat.le_trans h.size ho.bel.size,fun k hk=>(ho.old k oM (fun hh=>by have:=hS k hh; omega)).trans (h.block k hk)⟩
theorem Only.blk {S : List Nat} {w w' : World} {g : Nat} {T : TypeId} {cs : Array Value} (h : Blk w g T cs) (ho : Only S w w') (hg : g ∉ S) : Blk w' g T cs:=(ho.old g h.lt hg).trans h
theorem tmod3 {z : Int} : (Int.tmod z 3).natAbs<=2:=by
 rcases Int.le_total 0 z with h | h
 ·rw [Int.tmod_eq_emod_of_nonneg h]; omega
 ·have : Int.tmod z 3 = -(Int.tmod (-z) 3):=by rw [Int.neg_tmod]; omega
  rw [this,Int.tmod_eq_emod_of_nonneg oM]; omega
theorem Dg.tr {R C r : Nat} {F : Nat->Nat->Int} (h : Dg R C r F) : Dg C R r (trF F):=
 ⟨fun a ha b hb hab=>h.off b hb a ha (Ne.symm hab),h.pos,fun i h1 h2=>h.zero i h1 oM,by have:=h.le; omega⟩
theorem Inv.tr {R C r : Nat} {A F : Nat->Nat->Int} (h : Inv R C r A F) : Inv C R r (trF A) (trF F):=
 ⟨h.dg.tr,fun a b h1 h2 h3=>h.chn a b h1 h2 oM,h.fwd.tr,h.bwd.tr⟩
theorem Inv.congr {R C r : Nat} {A B F : Nat->Nat->Int} (h : Inv R C r A F) (e : ∀a,a < R->∀b,b < C->B a b = A a b) : Inv R C r B F:=
 ⟨h.dg,h.chn,(Fac.congr (Fac.refl R C B) fun a ha b hb=>(e a ha b hb).symm).trans h.fwd,h.bwd.congr e⟩
theorem Inv.list_eq {R C r r' : Nat} {A B F G : Nat->Nat->Int} (hF : Inv R C r A F) (hG : Inv R C r' B G) (h1 : Fac R C A B) (h2 : Fac R C B A) : genV r' (fun i=>G i i) = genV r (fun i=>F i i):=by
 obtain ⟨e1,e2⟩:=hF.unique_fac hG h1 h2
 subst e1
 exact genV_congr fun i hi=>(e2 i (by have:=hF.dg.le; omega)).symm
theorem Fac.toEnt {R C : Nat} {F G : Nat->Nat->Int} (h : Fac R C F G) : Fac R C F (ent (genM R C G)):=h.congr fun a ha b hb=>ent_genM ha hb
theorem Fac.ofEnt {R C : Nat} {F G : Nat->Nat->Int} (h : Fac R C G F) : Fac R C (ent (genM R C G)) F:=(Fac.congr (Fac.refl R C _) fun a ha b hb=>(ent_genM ha hb).symm).trans h
theorem r13sameB (v1 v2 : Value) (xs : List Int) (w : World) (h1 : VecV w v1 xs) (h2 : VecV w v2 xs) : Calls Tryz.prog 17 #[v1,v2] w fun e w'=>∃v,e = .returned v/\v = .bool true/\Below w.heap.size w w':=
 (r13sameT v1 v2 xs w h1 h2).mono fun e w' h=>⟨_,h.1,rfl,h.2⟩
set_option maxRecDepth 20000 in
theorem appJ {w : World} {ops : Array Oper} {rest : List Oper} {o : Oper} {a : Act} {Q : Exit->Act->World->Prop} (hgd : o.guard = none) (s x : Operand)
  (ho : o.op = .call { callee:=.builtin .append,args:=#[s,x],argTypes:=#[35,35] })
  (base : Nat) (v : Value) (zs : List Int) (hs : a.eval s = v) (hown : VecO w base v zs) (b : Nat) (c : Nat) (sn : Bool) (sa : Option Addr) (sl sc : Nat) (z : Int) (hx : a.eval x = .slice (some ⟨b,0,none⟩) 1 c)
  (hb : Blk w b tI #[.bool sn,.slice sa sl sc]) (hz : IntV w (.agg #[.bool sn,.slice sa sl sc]) z)
  (hlen : zs.length + 1<=1099511627776) (hbase : base<=w.heap.size)
  (h : ∀v' w',VecO w' base v' (zs ++ [z])->w.grownBy w' v.ownBlock->LExt w w'->(v'.ownBlock = v.ownBlock ∨ ∃g,v'.ownBlock = some g/\w.heap.size<=g)->wpList Tryz.prog ops Q rest (a.put o.dst v') w') : wpList Tryz.prog ops Q (o :: rest) a w:=by
 obtain ⟨i0,hi,hz0,hz1,hz2⟩:=info_parts Tryz.infoI
 obtain ⟨cells,h1,h2⟩:=hown
 have hcl : cells.length = zs.length * 2:=h1.1
 obtain ⟨c1,c2,-,-⟩:=hb.two
 have hnews : ∀(j : Nat) (u : Value),[Value.bool sn,.slice sa sl sc][j]? = some u->w.cell? ((⟨b,0,none⟩ : Addr).add j) = some u:=by
  intro j u hj
  rw [Addr.add_lit]
  match j with
  | 0=>simp at hj; subst hj; exact c1
  | 1=>simp at hj; subst hj; exact c2
  | j + 2=>simp at hj
 have hone : ∀u ∈ [Value.bool sn,.slice sa sl sc],u.oneCell' = true:=by
  intro u hu
  simp at hu
  rcases hu with rfl | rfl <;> rfl
 have h63 : zs.length + 1<=maxLen:=by simp [maxLen]; omega
 obtain ⟨v',w',hr,k1,k2,-⟩:=run_append_own (P:=Tryz.prog) w base 35 o.type tI i0 _ 2 32 Tryz.underlying35 hi hz0 hz1 hz2 rfl oM v zs.length cells h1 ⟨b,0,none⟩ 1 c [.bool sn,.slice sa sl sc] rfl hnews hone h63 oM hbase
 have h3 : v'.ownBlock = v.ownBlock ∨ ∃g,v'.ownBlock = some g/\w.heap.size<=g:=by
  rcases h1.2 with ⟨rfl,h0⟩ | ⟨g,cap,cur,rfl,e2,e3,e4,e5,e6,e7⟩
  ·have hr2:=run_append_nil (P:=Tryz.prog) w 35 o.type tI i0 _ Tryz.underlying35 hi hz0 ⟨b,0,none⟩ 1 c [.bool sn,.slice sa sl sc] (by rw [hz1]; rfl) hnews oM oM (by rw [hz2]; omega)
   rw [hr2] at hr
   injection hr with hv _
   exact .inr ⟨_,by rw [<-hv]; rfl,Nat.le_refl _⟩
  ·by_cases hroom : zs.length + 1<=cap
   ·have hr2:=run_append_room (P:=Tryz.prog) w 35 o.type tI i0 Tryz.underlying35 hi g zs.length cap cur e3 ⟨b,0,none⟩ 1 c [.bool sn,.slice sa sl sc] (by rw [hz1]; rfl) hnews hone hroom (by rw [hz1,e6]; simp; omega)
    rw [hr2] at hr
    injection hr with hv _
    exact .inl (by rw [<-hv]; rfl)
   ·have hr2:=run_append_grow (P:=Tryz.prog) w 35 o.type tI i0 _ Tryz.underlying35 hi hz0 ⟨g,0,none⟩ zs.length cap cells (by rw [hz1]; exact hcl) (h1.cells (g:=g) rfl) ⟨b,0,none⟩ 1 c [.bool sn,.slice sa sl sc] (by rw [hz1]; rfl) hnews oM oM (growslice_fits oM (by rw [hz2]; omega))
    rw [hr2] at hr
    injection hr with hv _
    exact .inr ⟨_,by rw [<-hv]; rfl,Nat.le_refl _⟩
 have hvo : VecO w' base v' (zs ++ [z]):=by
  have hx2:=lext_grown h1 dE k2
  refine ⟨cells ++ [.bool sn,.slice sa sl sc],by simpa using k1,?_⟩
  intro k y hk
  rcases Nat.lt_or_ge k zs.length with hlt | hge
  ·rw [List.getElem?_append_left hlt] at hk
   obtain ⟨s',a',l',c',e1,e2,e3⟩:=h2 k y hk
   exact ⟨s',a',l',c',by rw [List.getElem?_append_left oM]; exact e1,by rw [List.getElem?_append_left oM]; exact e2,e3.ext hx2⟩
  ·rw [List.getElem?_append_right hge] at hk
   have hk0 : k = zs.length:=by
    have:=(List.getElem?_eq_some_iff.1 hk).1
    simp at this
    omega
   subst hk0
   simp at hk
   subst hk
   refine ⟨sn,sa,sl,sc,?_,?_,hz.ext hx2⟩
   ·rw [List.getElem?_append_right oM,hcl]; simp
   ·rw [List.getElem?_append_right oM,hcl]
    rw [show zs.length * 2 + 1 - zs.length * 2 = 1 by omega]
    rfl
 refine wpList_plain hgd fun K hK=>?_
 unfold Oper.wp execOp
 simp only [ho,resolve,invoke,builtin,Sem.run_bind,Sem.run_pure,Result.andThen_ok,List.map_toArray,List.map_cons,List.map_nil,hs,hx,hr]
 exact hK _ _ (h v' w' hvo k2 (lext_grown h1 dE k2) h3)
def lastN (k : Nat->Int) : Nat->Int
 | 0=>1
 | j + 1=>lastN k j * k j
def madeD (k : Nat->Int) : Nat->Nat->Int:=fun a b=>if a = b then lastN k (a + 1) else 0
def madeP (k : Nat->Int) (i : Nat) : Nat->Nat->Int:=fun a b=>if a = b/\a < i then lastN k (a + 1) else 0
theorem lastN_nonneg {k : Nat->Int} (h : ∀j,0<=k j) : ∀j,0<=lastN k j:=by
 intro j
 induction j with
 | zero=>exact Int.le_of_lt Int.one_pos
 | succ j ih=>exact Int.mul_nonneg ih (h j)
theorem lastN_le {k : Nat->Int} (h : ∀j,(k j).natAbs<=5) : ∀j,(lastN k j).natAbs<=5 ^ j:=by
 intro j
 induction j with
 | zero=>exact Nat.le_refl _
 | succ j ih=>exact abs_mul_le ih (h j)
theorem lastN_dvd (k : Nat->Int) (a : Nat) : ∀d,lastN k a ∣ lastN k (a + d):=by
 intro d
 induction d with
 | zero=>exact Int.dvd_refl _
 | succ d ih=>exact Int.dvd_mul_of_dvd_left ih
theorem made_rank {k : Nat->Int} (h : ∀j,0<=k j) : ∀m,∃r,r<=m/\(∀i,i < r->0 < lastN k (i + 1))/\∀i,r<=i->i < m->lastN k (i + 1) = 0:=by
 intro m
 induction m with
 | zero=>exact ⟨0,Nat.le_refl _,fun i hi=>by omega,fun i _ hi=>by omega⟩
 | succ m ih=>
  obtain ⟨r,h1,h2,h3⟩:=ih
  by_cases hr : r = m
  ·subst hr
   by_cases h0 : lastN k (r + 1) = 0
   ·refine ⟨r,by omega,h2,fun i h4 h5=>?_⟩
    obtain rfl : i = r:=by omega
    exact h0
   ·refine ⟨r + 1,Nat.le_refl _,fun i hi=>?_,fun i h4 h5=>by omega⟩
    by_cases e : i = r
    ·rw [e]
     have:=lastN_nonneg h (r + 1)
     omega
    ·exact h2 i oM
  ·refine ⟨r,by omega,h2,fun i h4 h5=>?_⟩
   by_cases e : i = m
   ·subst e
    have:=h3 (i - 1) oM oM
    rw [show i - 1 + 1 = i by omega] at this
    show lastN k i * k i = 0
    rw [this,Int.zero_mul]
   ·exact h3 i h4 oM
theorem made_inv {k : Nat->Int} (h : ∀j,0<=k j) (R C : Nat) : ∃r,Inv R C r (madeD k) (madeD k)/\genV r (fun i=>madeD k i i) = nzL (genV (min R C) fun j=>lastN k (j + 1)):=by
 obtain ⟨r,h1,h2,h3⟩:=made_rank h (min R C)
 have e : ∀i,madeD k i i = lastN k (i + 1):=fun i=>by unfold madeD; rw [if_pos rfl]
 refine ⟨r,⟨⟨fun a ha b hb hab=>by unfold madeD; rw [if_neg hab],fun i hi=>by rw [e]; exact h2 i hi,fun i h4 h5=>by rw [e]; exact h3 i h4 h5,h1⟩,fun a b _ hab hb=>?_,Fac.refl _ _ _,Fac.refl _ _ _⟩,?_⟩
 ·rw [e,e]
  have:=lastN_dvd k (a + 1) (b - a)
  rwa [show a + 1 + (b - a) = b + 1 by omega] at this
 ·rw [filter_gen h1 (fun i hi=>by have:=h2 i hi; omega) h3]
  exact genV_congr fun i _=>e i
theorem made_form {k : Nat->Int} (h : ∀j,0<=k j) {R C r : Nat} {B S : Nat->Nat->Int} (hI : Inv R C r B S) (h1 : Fac R C (madeD k) B) (h2 : Fac R C B (madeD k)) : genM R C S = genM R C (madeD k):=by
 obtain ⟨r',hD,-⟩:=made_inv h R C
 obtain ⟨-,e⟩:=hD.unique_fac hI h1 h2
 refine genM_congr fun a ha b hb=>?_
 by_cases hab : a = b
 ·subst hab
  exact (e a oM).symm
 ·rw [hI.dg.off a ha b hb hab]
  unfold madeD
  rw [if_neg hab]
section
variable {P : Program} {ops : Array Oper} {Q : Exit->Act->World->Prop}
variable {W : World} {n0 : Nat} {T0 : Array Value} {tB : TypeId} {vs : List VS} {bs : List BS} {es : List ES} {L : Array Bool} {T : Array Value} {w w' : World}
theorem put2_set {sl b o k : Nat} {v : Value} (h : k ≠ sl) (T : Array Value) : put2At sl b o (T.setIfInBounds k v) = put2At sl b o T:=by
 unfold put2At cellOf
 rw [Array.getElem?_setIfInBounds_ne h]
structure RIT (W : World) (n0 : Nat) (T0 : Array Value) (tB : TypeId) (vs : List VS) (bs : List BS) (es : List ES) (k1 k2 : Nat) (p1 : Array Value->World->World) (p2 : Array Value->World->World) (L : Array Bool) (T : Array Value) (w : World) : Prop where
 ex : ∃w0,RI W n0 T0 tB vs bs es L T w0/\(L[k1]? ≠ some true->w = w0)/\(L[k1]? = some true->L[k2]? ≠ some true->w = p1 T w0)/\(L[k2]? = some true->w = p2 T (p1 T w0))
variable {n k1 k2 : Nat} {p1 : Array Value->World->World} {p2 : Array Value->World->World}
theorem RIT.start (h : RI W n0 T0 tB vs bs es (Array.replicate n false) T w) : RIT W n0 T0 tB vs bs es k1 k2 p1 p2 (Array.replicate n false) T w:=by
 have hf : ∀k : Nat,(Array.replicate n false)[k]? ≠ some true:=by
  intro k h
  rw [Array.getElem?_replicate] at h
  split at h <;> simp at h
 exact ⟨w,h,fun _=>rfl,fun h1=>absurd h1 (hf _),fun h1=>absurd h1 (hf _)⟩
theorem StepAt.liftT {ds : List Deferred} {k : Nat} {o : Oper} (hr1 : reach ops 9 k1 k = true) (hr2 : reach ops 9 k2 k1 = true) (hk : k ≠ k1/\k ≠ k2) (h : StepAt P ops Q ds (RI W n0 T0 tB vs bs es) k o) : StepAt P ops Q ds (RIT W n0 T0 tB vs bs es k1 k2 p1 p2) k o:=by
 intro L T w hL hd hcl hI K hK
 obtain ⟨w0,hri,h1,h2,h3⟩:=hI.ex
 have hn : L[k1]? ≠ some true:=fun hh=>by
  have:=reach_spec hcl hr1 hh
  rw [hL] at this
  cases this
 have hn2 : L[k2]? ≠ some true:=fun hh=>hn (reach_spec hcl hr2 hh)
 obtain rfl:=h1 hn
 exact h L T w hL @hd hcl hri K (fun T' w' hI'=>hK T' w' ⟨w',hI',fun _=>rfl,fun hh=>absurd (set_true hh hk.1) hn,fun hh=>absurd (set_true hh hk.2) hn2⟩)
theorem RIT.value {k : Nat} {v : Value} (h : RIT W n0 T0 tB vs bs es k1 k2 p1 p2 L T w) (hcl : ClosedL ops L) (hr2 : reach ops 9 k2 k = true) (hL : L[k]? = some false) (hk : k ≠ k1/\k ≠ k2) (s : VS) (hs : s ∈ vs) (hsk : s.op = k) (hP : ∀w,s.P w v) (hp1 : ∀T,p1 (T.setIfInBounds s.slot v) = p1 T) :
  RIT W n0 T0 tB vs bs es k1 k2 p1 p2 (L.setIfInBounds k true) (T.setIfInBounds s.slot v) w:=by
 obtain ⟨w0,hri,h1,h2,h3⟩:=h.ex
 have hn2 : L[k2]? ≠ some true:=fun hh=>by
  have:=reach_spec hcl hr2 hh
  rw [hL] at this
  cases this
 exact ⟨w0,hri.value s hs hsk (hP w0),fun hh=>h1 (set_ne hh),fun hh hh2=>by rw [hp1]; exact h2 (set_true hh hk.1) (set_ne hh2),fun hh=>absurd (set_true hh hk.2) hn2⟩
theorem RIT.val {s : VS} (h : RIT W n0 T0 tB vs bs es k1 k2 p1 p2 L T w) (hs : s ∈ vs) (hl : L[s.op]? = some true) (hP : ∀w w' v,s.P w v->s.P w' v) : ∃v,T[s.slot]? = some v/\∀w,s.P w v:=by
 obtain ⟨w0,hri,-⟩:=h.ex
 obtain ⟨v,e1,e2⟩:=hri.val s hs hl
 exact ⟨v,e1,fun w=>hP _ _ _ e2⟩
theorem RIT.keep {j : Nat} (h : RIT W n0 T0 tB vs bs es k1 k2 p1 p2 L T w) (h1 : ∀s ∈ vs,s.slot ≠ j) (h2 : ∀s ∈ bs,s.slot ≠ j) : T[j]? = T0[j]?:=by
 obtain ⟨w0,hri,-⟩:=h.ex
 exact hri.keep j h1 h2
theorem RIT.first (h : RIT W n0 T0 tB vs bs es k1 k2 p1 p2 L T w) (hcl : ClosedL ops L) (hr2 : reach ops 9 k2 k1 = true) (hL : L[k1]? = some false) (hne : k1 ≠ k2) (h1 : ∀s ∈ vs,s.op ≠ k1) (h2 : ∀s ∈ bs,s.al ≠ k1/\s.st ≠ k1) (h3 : ∀s ∈ es,s.st ≠ k1) :
  RI W n0 T0 tB vs bs es L T w/\RIT W n0 T0 tB vs bs es k1 k2 p1 p2 (L.setIfInBounds k1 true) T (p1 T w):=by
 obtain ⟨w0,hri,g1,g2,g3⟩:=h.ex
 have hn : L[k1]? ≠ some true:=by rw [hL]; simp
 have hn2 : L[k2]? ≠ some true:=fun hh=>hn (reach_spec hcl hr2 hh)
 have hw : w = w0:=g1 hn
 subst hw
 refine ⟨hri,⟨w,hri.skip h1 h2 h3,fun hh=>absurd (Array.getElem?_setIfInBounds_self_of_lt (Array.getElem?_eq_some_iff.1 hL).1) hh,fun _ _=>rfl,fun hh=>absurd (set_true hh hne) hn2⟩⟩
theorem RIT.second (h : RIT W n0 T0 tB vs bs es k1 k2 p1 p2 L T w) (hl1 : L[k1]? = some true) (hL : L[k2]? = some false) (h1 : ∀s ∈ vs,s.op ≠ k2) (h2 : ∀s ∈ bs,s.al ≠ k2/\s.st ≠ k2) (h3 : ∀s ∈ es,s.st ≠ k2) :
  ∃w0,w = p1 T w0/\RI W n0 T0 tB vs bs es L T w0/\RIT W n0 T0 tB vs bs es k1 k2 p1 p2 (L.setIfInBounds k2 true) T (p2 T (p1 T w0)):=by
 obtain ⟨w0,hri,g1,g2,g3⟩:=h.ex
 have hn2 : L[k2]? ≠ some true:=by rw [hL]; simp
 refine ⟨w0,g2 hl1 hn2,hri,⟨w0,hri.skip h1 h2 h3,fun hh=>absurd (listed_mono hl1) hh,fun _ hh=>absurd (Array.getElem?_setIfInBounds_self_of_lt (Array.getElem?_eq_some_iff.1 hL).1) hh,fun _=>rfl⟩⟩
theorem RIT.fin (h : RIT W n0 T0 tB vs bs es k1 k2 p1 p2 (Array.replicate n true) T w) (hk : k2 < n) : ∃w0,RI W n0 T0 tB vs bs es (Array.replicate n true) T w0/\w = p2 T (p1 T w0):=by
 obtain ⟨w0,hri,g1,g2,g3⟩:=h.ex
 exact ⟨w0,hri,g3 (by simp [hk])⟩
end
end Go.Proofs.YtnocgagoaldfnaaGreat
