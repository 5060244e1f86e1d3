/- smith.inverses and smith.Check where everything holds. smith.Check where everything holds; the zero struct. torsionlaw13.list. torsionref05.Ints. torsionref13.Same. The two definitions of a Smith form agree. -/
import Derived.Test.YtnocgagoaldfnaaGreatD16
import Derived.Test.YtnocgagoaldfnaaGreatD17
import Derived.Test.YtnocgagoaldfnaaGreatD18
import Derived.Test.YtnocgagoaldfnaaGreatD19
import Derived.Test.YtnocgagoaldfnaaGreatD44
set_option linter.unusedVariables false
set_option linter.unusedSimpArgs false
set_option linter.unusedSectionVars false
namespace Go.Proofs.YtnocgagoaldfnaaGreat
open Go.RowKit
theorem midentityM (n : Nat) (w : World) (hn : n<=1000000) : Calls Tryz.prog 49 #[.int .i64 n] w fun e w'=>∃v,e = .returned v/\MatV w' v n n (genM n n idf)/\Below w.heap.size w w':=
 (midentity_any n w hn).mono fun _ _ ⟨v,bs,e,h,hb⟩=>⟨v,e,h.mat.1,hb⟩
theorem mequalT (v1 v2 : Value) (R C : Nat) (M1 M2 : List (List Int)) (w : World) (h1 : MatV w v1 R C M1) (h2 : MatV w v2 R C M2) (hF1 : Fits R C M1) (hF2 : Fits R C M2) (hC : C<=1000000) (he : M1 = M2) :
  Calls Tryz.prog 69 #[v1,v2] w fun e w'=>∃v,e = .returned v/\v = .bool true/\Below w.heap.size w w':=
 (mequal_any v1 v2 R C M1 M2 w h1 h2 hF1 hF2 hC).mono fun e w' ⟨h,hb⟩=>⟨_,h,by rw [decide_eq_true he],hb⟩
theorem mmulM (v1 v2 : Value) (R m C : Nat) (M1 M2 : List (List Int)) (w : World) (h1 : MatV w v1 R m M1) (h2 : MatV w v2 m C M2) (hF1 : Fits R m M1) (hF2 : Fits m C M2) (hR : R<=1000000) (hm : m<=1000000) (hC : C<=1000000) (hS : MulSm M1 M2 R m C) :
  Calls Tryz.prog 68 #[v1,v2] w fun e w'=>∃o c k,e = .returned (.tuple #[.agg #[.int .i64 R,.int .i64 C,.slice o c k],.int .i64 0])/\MatV w' (.agg #[.int .i64 R,.int .i64 C,.slice o c k]) R C (genM R C (mulf M1 M2 m))/\Below w.heap.size w w':=by
 refine (mmul_any v1 v2 R m C M1 M2 w h1 h2 hF1 hF2 hR hm hC hS).mono ?_
 rintro e w' ⟨v,bs,rfl,h,hb⟩
 obtain ⟨A,rfl,ao,n,cap,rfl,h3⟩:=h.mat.1
 exact ⟨_,_,_,rfl,h.mat.1,hb⟩
set_option maxHeartbeats 4000000 in
set_option maxRecDepth 20000 in
theorem inverses_true (v1 v2 : Value) (n : Nat) (U V : List (List Int)) (w : World) (h1 : MatV w v1 n n U) (h2 : MatV w v2 n n V) (hF1 : Fits n n U) (hF2 : Fits n n V) (hn : n<=1000000) (hS : MulSm U V n n n) (hp : genM n n (mulf U V n) = genM n n idf) :
  Calls Tryz.prog 67 #[v1,v2,.int .i64 n] w fun e w'=>∃v,e = .returned v/\v = .bool true/\Below w.heap.size w w':=by
 have H1:=HidS.mk h1
 have H2:=HidS.mk h2
 obtain ⟨A1,rfl,h1⟩:=h1
 obtain ⟨A2,rfl,h2⟩:=h2
 obtain ⟨ao,an,ac,rfl,-⟩:=id h1
 obtain ⟨bo,bn,bc,rfl,-⟩:=id h2
 have HF1:=HidS.mk hF1
 have HF2:=HidS.mk hF2
 have HS:=HidS.mk hS
 have HP:=HidS.mk hp
 have hdv1 : decide (ValidM n n U) = true:=decide_eq_true hF1.valid
 have hdv2 : decide (ValidM n n V) = true:=decide_eq_true hF2.valid
 clear hF1 hF2 hS hp h1 h2
 go_enter Tryz.func67,Tryz.ntmps67
 go_upto_region 1 with (fail)
 refine wp_world ?_
 intro W0 hW0
 obtain ⟨hB0,bx1,bx2,hs0⟩:=world2 hW0
 obtain ⟨c1,c2,c3,c4,c5,c6⟩:=bx1.three
 obtain ⟨d1,d2,d3,d4,d5,d6⟩:=bx2.three
 clear hW0
 go_wp2_with fail
 refine (mvalid_any _ n n U W0 (H1.out.below hB0)).mono ?_
 rintro e w1 ⟨rfl,hb1⟩
 rw [hdv1]
 have hB:=nx hB0 hb1
 have bx1:=bx1.below hb1
 have bx2:=bx2.below hb1
 clear c1 c2 c3 c4 c5 c6 d1 d2 d3 d4 d5 d6 hdv1
 obtain ⟨c1,c2,c3,c4,c5,c6⟩:=bx1.three
 obtain ⟨d1,d2,d3,d4,d5,d6⟩:=bx2.three
 go_wp2_with fail
 refine (mvalid_any _ n n V w1 (H2.out.below hB)).mono ?_
 rintro e w2 ⟨rfl,hb2⟩
 rw [hdv2]
 have hB:=nx hB hb2
 have bx1:=bx1.below hb2
 have bx2:=bx2.below hb2
 clear c1 c2 c3 c4 c5 c6 d1 d2 d3 d4 d5 d6 hdv2
 obtain ⟨c1,c2,c3,c4,c5,c6⟩:=bx1.three
 obtain ⟨d1,d2,d3,d4,d5,d6⟩:=bx2.three
 go_wp2_with fail
 refine (mmulM _ _ n n n U V w2 (H1.out.below hB) (H2.out.below hB) HF1.out HF2.out hn hn hn HS.out).mono ?_
 rintro e w3 ⟨o,c,k,rfl,hm,hb3⟩
 have hB:=nx hB hb3
 have HM:=HidS.mk hm
 clear c1 c2 c3 c4 c5 c6 d1 d2 d3 d4 d5 d6 hm
 go_upto_region 4 with (fail)
 refine wp_world ?_
 intro W4 hW4
 obtain ⟨hB4,T7,hs4⟩:=world1 hW4
 have hB:=nx hB hB4
 have HM:=HidS.mk (HM.out.below hB4)
 obtain ⟨c1,c2,c3,c4,c5,c6⟩:=T7.three
 clear hW4
 refine wp_region_each rfl (RV W4 _ [⟨0,41,fun _ v=>v = .int .i64 0⟩,⟨1,42,fun _ v=>v = .bool true⟩,⟨2,43,fun _ v=>v = .bool true⟩,⟨3,44,fun _ v=>v = .agg #[.int .i64 n,.int .i64 n,.slice o c k]⟩,⟨4,45,fun _ v=>v = .int .i64 n⟩,⟨5,46,fun w v=>MatV w v (n) (n) (genM n n idf)⟩,⟨6,47,fun _ v=>v = .bool true⟩,⟨7,48,fun _ v=>v = .bool true⟩,⟨8,6,fun _ v=>v = .bool true⟩]) kR RV.start ?fin1 ?steps1
 case steps1=>
  refine ⟨?_,?_,?_,?_,?_,?_,?_,?_,?_,trivial⟩ <;> (intro L T wS hL hd hcl hI K hK; try refine step_wanted rfl ?_)
  ·have zt : T[8]? = some (.int .i64 0):=hI.keep 8 sI
   go_simp
   exact hK _ _ (hI.y mm0 rfl)
  ·obtain ⟨_,zt0,rfl⟩:=hI.v mm0 (hd 0)
   go_simp
   exact hK _ _ (hI.y mm1 rfl)
  ·obtain ⟨_,zt1,rfl⟩:=hI.v mm1 (hd 1)
   go_simp
   exact hK _ _ (hI.y mm2 rfl)
  ·obtain ⟨_,zg,rfl⟩:=hI.v mm2 (hd 2)
   refine step_wanted (by simp [Region.wanted,yielded,zg]) ?_
   have zt : T[7]? = some (.pointer (some ⟨w3.heap.size,0,none⟩)):=hI.keep 7 sI
   have cc0:=hI.cell c1
   have cc1:=hI.cell c2
   have cc2:=hI.cell c3
   go_simp
   exact hK _ _ (hI.y mm3 rfl)
  ·obtain ⟨_,zg,rfl⟩:=hI.v mm2 (hd 2)
   refine step_wanted (by simp [Region.wanted,yielded,zg]) ?_
   have zt : T[2]? = some (.int .i64 n):=hI.keep 2 sI
   go_simp
   exact hK _ _ (hI.y mm4 rfl)
  ·obtain ⟨_,zg,rfl⟩:=hI.v mm2 (hd 2)
   refine step_wanted (by simp [Region.wanted,yielded,zg]) ?_
   obtain ⟨_,zt4,rfl⟩:=hI.v mm4 (hd 4)
   go_simp
   refine (midentityM n _ hn).mono ?_
   rintro e wa ⟨v,rfl,hv,hba⟩
   exact hK _ _ ((hI.world hba).y mm5 hv)
  ·obtain ⟨_,zg,rfl⟩:=hI.v mm2 (hd 2)
   refine step_wanted (by simp [Region.wanted,yielded,zg]) ?_
   obtain ⟨_,zt3,rfl⟩:=hI.v mm3 (hd 3)
   obtain ⟨v5,zt5,h5⟩:=hI.v mm5 (hd 5)
   go_simp
   refine (mequalT _ _ n n _ _ _ (HM.out.below hI.bel) h5 (genM_fits _ _ _) (genM_fits _ _ _) hn HP.out).mono ?_
   rintro e wa ⟨v,rfl,hv,hba⟩
   exact hK _ _ ((hI.world hba).y mm6 hv)
  ·obtain ⟨_,zt2,rfl⟩:=hI.v mm2 (hd 2)
   obtain ⟨_,zt6,rfl⟩:=hI.v mm6 (hd 6)
   go_simp
   exact hK _ _ (hI.y mm7 rfl)
  ·obtain ⟨_,zt7,rfl⟩:=hI.v mm7 (hd 7)
   go_simp
   exact hK _ _ (hI.y mm8 rfl)
 intro T w5 hI
 obtain ⟨va0,q0,rfl⟩:=hI.v mm0 rfl
 obtain ⟨va1,q1,rfl⟩:=hI.v mm1 rfl
 obtain ⟨va2,q2,rfl⟩:=hI.v mm2 rfl
 obtain ⟨va3,q3,rfl⟩:=hI.v mm3 rfl
 obtain ⟨va4,q4,rfl⟩:=hI.v mm4 rfl
 obtain ⟨va5,q5,ha5⟩:=hI.v mm5 rfl
 replace ha5 : MatV w5 va5 (n) (n) (genM n n idf):=ha5
 obtain ⟨va6,q6,rfl⟩:=hI.v mm6 rfl
 obtain ⟨va7,q7,rfl⟩:=hI.v mm7 rfl
 obtain ⟨va8,q8,rfl⟩:=hI.v mm8 rfl
 have hT:=tmps_set [(41,.int .i64 0),(42,.bool true),(43,.bool true),(44,.agg #[.int .i64 n,.int .i64 n,.slice o c k]),(45,.int .i64 n),(46,va5),(47,.bool true),(48,.bool true),(6,.bool true)]
  (fun j hj=>hI.keep j (by simp only [List.forall_mem_cons] at hj ⊢; simp [hj]))
  (by simp only [List.forall_mem_cons]; simp [q0,q1,q2,q3,q4,q5,q6,q7,q8]) hI.size
 have hbw5:=hI.bel
 clear hI
 simp only [List.foldl_cons,List.foldl_nil,List.setIfInBounds_toArray,List.set_cons_zero,List.set_cons_succ,ptr] at hT
 subst hT
 clear q0 q1 q2 q3 q4 q5 q6 q7 q8
 have hB:=nx hB hbw5
 clear c1 c2 c3 c4 c5 c6
 go_wp2
 go_ret
 exact ⟨_,rfl,rfl,hB⟩
set_option maxHeartbeats 8000000 in
set_option maxRecDepth 20000 in
theorem scheck_true (av fv : Value) (R C : Nat) (A S U V W X : List (List Int)) (w : World) (ha : MatV w av R C A) (hf : SmithV w fv R C S U V W X) (hA : Fits R C A) (hSf : Fits R C S) (hU : Fits R R U) (hV : Fits R R V) (hW : Fits C C W) (hX : Fits C C X) (hR : R<=1000000) (hC : C<=1000000)
  (hIs : IsM2 R C S = true) (hI1 : genM R R (mulf U V R) = genM R R idf) (hI2 : genM C C (mulf W X C) = genM C C idf) (hSS : ∀r ∈ S,∀z ∈ r,Smd z) (hm1 : MulSm U V R R R) (hm2 : MulSm W X C C C)
  (hm3 : MulSm U A R R C) (hm4 : MulSm (genM R C (mulf U A R)) W R C C) (hP : genM R C (mulf (genM R C (mulf U A R)) W C) = S) :
  Calls Tryz.prog 21 #[av,fv] w fun e w'=>e = .returned (.bool true)/\Below w.heap.size w w':=by
 obtain ⟨s0,u0,v0,x0,y0,rfl,hs0,hu0,hv0,hx0,hy0⟩:=hf.ex
 obtain ⟨so,sn,sc,rfl,-⟩:=id hs0
 obtain ⟨uo,un,uc,rfl,-⟩:=id hu0
 obtain ⟨vo,vn,vc,rfl,-⟩:=id hv0
 obtain ⟨xo,xn,xc,rfl,-⟩:=id hx0
 obtain ⟨yo,yn,yc,rfl,-⟩:=id hy0
 obtain ⟨A1,rfl,hA1⟩:=id ha
 obtain ⟨ao,an,ac,rfl,-⟩:=id hA1
 have hs : MatV w (.agg #[.int .i64 R,.int .i64 C,.slice so sn sc]) R C S:=⟨_,rfl,hs0⟩
 have hu : MatV w (.agg #[.int .i64 R,.int .i64 R,.slice uo un uc]) R R U:=⟨_,rfl,hu0⟩
 have hv : MatV w (.agg #[.int .i64 R,.int .i64 R,.slice vo vn vc]) R R V:=⟨_,rfl,hv0⟩
 have hx : MatV w (.agg #[.int .i64 C,.int .i64 C,.slice xo xn xc]) C C W:=⟨_,rfl,hx0⟩
 have hy : MatV w (.agg #[.int .i64 C,.int .i64 C,.slice yo yn yc]) C C X:=⟨_,rfl,hy0⟩
 have HA:=HidS.mk ha
 have HS:=HidS.mk hs
 have HU:=HidS.mk hu
 have HV:=HidS.mk hv
 have HX:=HidS.mk hx
 have HY:=HidS.mk hy
 have K:=HidS.mk (And.intro hA (And.intro hSf (And.intro hU (And.intro hV (And.intro hW hX)))))
 have KI:=HidS.mk (And.intro hI1 (And.intro hI2 hP))
 have KM:=HidS.mk (And.intro hm1 (And.intro hm2 (And.intro hm3 hm4)))
 have KS:=HidS.mk hSS
 have hdv : decide (ValidM R C A) = true:=decide_eq_true hA.valid
 clear ha hf hs hu hv hx hy hs0 hu0 hv0 hx0 hy0 hA1 hA hSf hU hV hW hX hI1 hI2 hP hm1 hm2 hm3 hm4 hSS
 go_enter Tryz.func21,Tryz.ntmps21
 go_upto_region 1 with (fail)
 refine wp_world ?_
 intro W0 hW0
 obtain ⟨hB,bx,bf,hs0⟩:=world2 hW0
 obtain ⟨c1,c2,c3,c4,c5,c6⟩:=bx.three
 obtain ⟨⟨q0,q1,q2,q3,q4,q5,q6,q7,q8,q9,q10,q11,q12,q13,q14⟩,-⟩:=bf.all15
 clear hW0
 go_wp2_with fail
 refine (mvalid_any _ R C A W0 (HA.out.below hB)).mono ?_
 rintro e w1 ⟨rfl,hb1⟩
 rw [hdv]
 have hB:=nx hB hb1
 have bx:=bx.below hb1
 have bf:=bf.below hb1
 clear c1 c2 c3 c4 c5 c6 q0 q1 q2 q3 q4 q5 q6 q7 q8 q9 q10 q11 q12 q13 q14 hdv
 obtain ⟨c1,c2,c3,c4,c5,c6⟩:=bx.three
 obtain ⟨⟨q0,q1,q2,q3,q4,q5,q6,q7,q8,q9,q10,q11,q12,q13,q14⟩,-⟩:=bf.all15
 go_wp2_with fail
 refine (sis_any _ R C S w1 (HS.out.below hB) KS.out oM oM).mono ?_
 rintro e w2 ⟨rfl,hb2⟩
 rw [hIs]
 have hB:=nx hB hb2
 have bx:=bx.below hb2
 have bf:=bf.below hb2
 clear c1 c2 c3 c4 c5 c6 q0 q1 q2 q3 q4 q5 q6 q7 q8 q9 q10 q11 q12 q13 q14 hIs
 obtain ⟨c1,c2,c3,c4,c5,c6⟩:=bx.three
 obtain ⟨⟨q0,q1,q2,q3,q4,q5,q6,q7,q8,q9,q10,q11,q12,q13,q14⟩,-⟩:=bf.all15
 go_wp2_with fail
 refine (inverses_true _ _ R U V w2 (HU.out.below hB) (HV.out.below hB) K.out.2.2.1 K.out.2.2.2.1 hR KM.out.1 KI.out.1).mono ?_
 rintro e w3 ⟨_,rfl,rfl,hb3⟩
 have hB:=nx hB hb3
 have bx:=bx.below hb3
 have bf:=bf.below hb3
 clear c1 c2 c3 c4 c5 c6 q0 q1 q2 q3 q4 q5 q6 q7 q8 q9 q10 q11 q12 q13 q14
 obtain ⟨c1,c2,c3,c4,c5,c6⟩:=bx.three
 obtain ⟨⟨q0,q1,q2,q3,q4,q5,q6,q7,q8,q9,q10,q11,q12,q13,q14⟩,-⟩:=bf.all15
 go_wp2_with fail
 refine (inverses_true _ _ C W X w3 (HX.out.below hB) (HY.out.below hB) K.out.2.2.2.2.1 K.out.2.2.2.2.2 hC KM.out.2.1 KI.out.2.1).mono ?_
 rintro e w4 ⟨_,rfl,rfl,hb4⟩
 have hB:=nx hB hb4
 have bx:=bx.below hb4
 have bf:=bf.below hb4
 clear c1 c2 c3 c4 c5 c6 q0 q1 q2 q3 q4 q5 q6 q7 q8 q9 q10 q11 q12 q13 q14
 obtain ⟨c1,c2,c3,c4,c5,c6⟩:=bx.three
 obtain ⟨⟨q0,q1,q2,q3,q4,q5,q6,q7,q8,q9,q10,q11,q12,q13,q14⟩,-⟩:=bf.all15
 go_wp2_with fail
 refine (mmulM _ _ R R C U A w4 (HU.out.below hB) (HA.out.below hB) K.out.2.2.1 K.out.1 hR hR hC KM.out.2.2.1).mono ?_
 rintro e w5 ⟨o,c,k,rfl,hm,hb5⟩
 have hB:=nx hB hb5
 have bx:=bx.below hb5
 have bf:=bf.below hb5
 have HM:=HidS.mk hm
 clear c1 c2 c3 c4 c5 c6 q0 q1 q2 q3 q4 q5 q6 q7 q8 q9 q10 q11 q12 q13 q14 hm
 obtain ⟨⟨q0,q1,q2,q3,q4,q5,q6,q7,q8,q9,q10,q11,q12,q13,q14⟩,-⟩:=bf.all15
 go_upto_region 6 with (fail)
 refine wp_world ?_
 intro W6 hW6
 obtain ⟨hB6,T7,hs6⟩:=world1 hW6
 have hB:=nx hB hB6
 have HM:=HidS.mk (HM.out.below hB6)
 have bf:=bf.below hB6
 clear hW6 q0 q1 q2 q3 q4 q5 q6 q7 q8 q9 q10 q11 q12 q13 q14
 obtain ⟨c1,c2,c3,c4,c5,c6⟩:=T7.three
 obtain ⟨⟨q0,q1,q2,q3,q4,q5,q6,q7,q8,q9,q10,q11,q12,q13,q14⟩,-⟩:=bf.all15
 go_wp2_with fail
 refine (mmulM _ _ R C C (genM R C (mulf U A R)) W W6 HM.out (HX.out.below hB) (genM_fits _ _ _) K.out.2.2.2.2.1 hR hC hC KM.out.2.2.2).mono ?_
 rintro e w7 ⟨o2,k2,l2,rfl,hm2,hb7⟩
 have hB:=nx hB hb7
 have bf:=bf.below hb7
 have HM2:=HidS.mk hm2
 clear c1 c2 c3 c4 c5 c6 q0 q1 q2 q3 q4 q5 q6 q7 q8 q9 q10 q11 q12 q13 q14 hm2
 go_upto_region 7 with (fail)
 refine wp_world ?_
 intro W8 hW8
 obtain ⟨hB8,T9,hs8⟩:=world1 hW8
 have hB:=nx hB hB8
 have HM2:=HidS.mk (HM2.out.below hB8)
 have bf:=bf.below hB8
 clear hW8
 obtain ⟨c1,c2,c3,c4,c5,c6⟩:=T9.three
 obtain ⟨⟨q0,q1,q2,q3,q4,q5,q6,q7,q8,q9,q10,q11,q12,q13,q14⟩,-⟩:=bf.all15
 go_wp2_with fail
 refine (mequalT _ _ R C _ S W8 HM2.out (HS.out.below hB) (genM_fits _ _ _) K.out.2.1 hC KI.out.2.2).mono ?_
 rintro e w9 ⟨_,rfl,rfl,hb9⟩
 have hB:=nx hB hb9
 clear c1 c2 c3 c4 c5 c6 q0 q1 q2 q3 q4 q5 q6 q7 q8 q9 q10 q11 q12 q13 q14
 go_wp2
 go_ret
 exact ⟨rfl,hB⟩
set_option maxHeartbeats 4000000 in
set_option maxRecDepth 20000 in
theorem scheck_zero (av : Value) (R C : Nat) (A : List (List Int)) (w : World) (ha : MatV w av R C A) (hA : Fits R C A) (hR : 0 < R) :
  Calls Tryz.prog 21 #[av,.agg #[.int .i64 0,.int .i64 0,.slice none 0 0,.int .i64 0,.int .i64 0,.slice none 0 0,.int .i64 0,.int .i64 0,.slice none 0 0,.int .i64 0,.int .i64 0,.slice none 0 0,.int .i64 0,.int .i64 0,.slice none 0 0]] w fun e w'=>e = .returned (.bool false)/\Below w.heap.size w w':=by
 obtain ⟨A1,rfl,hA1⟩:=id ha
 obtain ⟨ao,an,ac,rfl,-⟩:=id hA1
 have HA:=HidS.mk ha
 have hdv : decide (ValidM R C A) = true:=decide_eq_true hA.valid
 have hz : IsM2 0 0 [] = true:=by decide
 have hRn : ¬ (0 : Int) = R:=by omega
 clear ha hA1 hA
 go_enter Tryz.func21,Tryz.ntmps21
 go_upto_region 1 with (fail)
 refine wp_world ?_
 intro W0 hW0
 obtain ⟨hB,bx,bf,hs0⟩:=world2 hW0
 obtain ⟨c1,c2,c3,c4,c5,c6⟩:=bx.three
 obtain ⟨⟨q0,q1,q2,q3,q4,q5,q6,q7,q8,q9,q10,q11,q12,q13,q14⟩,-⟩:=bf.all15
 clear hW0
 go_wp2_with fail
 refine (mvalid_any _ R C A W0 (HA.out.below hB)).mono ?_
 rintro e w1 ⟨rfl,hb1⟩
 rw [hdv]
 have hB:=nx hB hb1
 have bx:=bx.below hb1
 have bf:=bf.below hb1
 clear c1 c2 c3 c4 c5 c6 q0 q1 q2 q3 q4 q5 q6 q7 q8 q9 q10 q11 q12 q13 q14 hdv
 obtain ⟨c1,c2,c3,c4,c5,c6⟩:=bx.three
 obtain ⟨⟨q0,q1,q2,q3,q4,q5,q6,q7,q8,q9,q10,q11,q12,q13,q14⟩,-⟩:=bf.all15
 go_wp2_with fail
 refine (sis_any _ 0 0 [] w1 ⟨_,rfl,RowsV.nil _⟩ (fun r hr=>by cases hr) oM oM).mono ?_
 rintro e w2 ⟨rfl,hb2⟩
 rw [hz]
 have hB:=nx hB hb2
 have bx:=bx.below hb2
 have bf:=bf.below hb2
 clear c1 c2 c3 c4 c5 c6 q0 q1 q2 q3 q4 q5 q6 q7 q8 q9 q10 q11 q12 q13 q14 hz
 obtain ⟨c1,c2,c3,c4,c5,c6⟩:=bx.three
 obtain ⟨⟨q0,q1,q2,q3,q4,q5,q6,q7,q8,q9,q10,q11,q12,q13,q14⟩,-⟩:=bf.all15
 go_wp2
 go_ret
 exact ⟨rfl,hB⟩
def I64V (w : World) (v : Value) (ls : List Int) : Prop:=
 ∃ao n cap,v = .slice ao n cap/\ls.length = n/\n<=cap/\cap<=9223372036854775807/\(∀z ∈ ls,-9223372036854775808<=z/\z<=9223372036854775807) ∧
  (ls ≠ []->∃(b : Nat) (cs : Array Value),ao = some ⟨b,0,none⟩/\w.heap[b]? = some (.cells cs 2 (0,0))/\∀(k : Nat) (z : Int),ls[k]? = some z->cs[k]? = some (.int .i64 z))
theorem I64V.below {w w' : World} {v : Value} {ls : List Int} (h : I64V w v ls) (hb : Below w.heap.size w w') : I64V w' v ls:=by
 obtain ⟨ao,n,cap,h1,h2,h3,h4,h5,h6⟩:=h
 refine ⟨ao,n,cap,h1,h2,h3,h4,h5,fun hn=>?_⟩
 obtain ⟨b,cs,e1,e2,e3⟩:=h6 hn
 exact ⟨b,cs,e1,(hb.block _ (Array.getElem?_eq_some_iff.1 e2).1).trans e2,e3⟩
theorem I64V.cell {w : World} {ao : Option Addr} {n cap : Nat} {ls : List Int} (h : I64V w (.slice ao n cap) ls) {k : Nat} (hk : k < ls.length) :
  ∃b z,ao = some ⟨b,0,none⟩/\b < w.heap.size/\ls[k]? = some z/\w.cell? ⟨b,k,none⟩ = some (.int .i64 z)/\-9223372036854775808<=z/\z<=9223372036854775807:=by
 obtain ⟨ao',n',cap',h1,h2,h3,h4,h5,h6⟩:=h
 injection h1 with e1 e2 e3
 subst e1
 obtain ⟨b,cs,e,hr,hc⟩:=h6 (by rintro rfl; simp at hk)
 have hz:=List.getElem?_eq_getElem hk
 have:=h5 _ (List.mem_of_getElem? hz)
 exact ⟨b,_,e,(Array.getElem?_eq_some_iff.1 hr).1,hz,(cell_of_row w b k cs _ _ hr).trans (hc k _ hz),this.1,this.2⟩
set_option maxHeartbeats 2000000 in
set_option maxRecDepth 20000 in
theorem list_any (v : Value) (ls : List Int) (w : World) (h : I64V w v ls) (hn : ls.length<=1000000) :
  Calls Tryz.prog 43 #[v] w fun e w'=>∃u,e = .returned u/\VecO w' w.heap.size u ls/\Below w.heap.size w w':=by
 obtain ⟨ao,n,cap,rfl,h2,h3,h4,-,-⟩:=id h
 have HL:=Lib.hid h2
 have hn1 : n<=1000000:=by omega
 clear h2 hn
 go_enter Tryz.func43,Tryz.ntmps43
 go_upto_block 0 with (fail)
 refine wp_world ?_
 intro W0 hW0
 obtain ⟨hB0,bA,hs0⟩:=world1 hW0
 have ho0 : VecO W0 w.heap.size (.slice (some ⟨w.heap.size,0,none⟩) 0 0) []:=⟨[],⟨rfl,.inr ⟨w.heap.size,0,#[],rfl,Nat.le_refl _,bA,Nat.le_refl _,by simp [maxLen],rfl,rfl⟩⟩,fun k z h=>by simp at h⟩
 go_wp2
 go_loopw [3,4] (fun u iv wr=>∃k : Nat,k<=n/\iv = .int .i64 k/\VecO wr w.heap.size u (ls.take k)/\Below w.heap.size w wr) (fun _ iv _=>n - (intOf iv).toNat)
 case atStart=>exact ⟨0,by omega,rfl,by rw [List.take_zero]; exact ho0,hB0⟩
 case round=>
  obtain ⟨k,hk,rfl,ho,hb⟩:=hrel
  by_cases hlt : k < n
  ·obtain ⟨b,z,rfl,hbl,hz,c1,z1,z2⟩:=(h.below hb).cell (k:=k) (by rw [HL.out]; exact hlt)
   have hd : Hid (ls.take (k + 1) = ls.take k ++ [z]):=by rw [List.take_add_one,hz]; exact Lib.hid rfl
   clear hz
   go_wp2_with fail
   refine (r1of_any z wr z1 z2).mono ?_
   rintro e w5 ⟨x,rfl,hx,hb5⟩
   obtain ⟨s,a,l,c,xs,rfl,hxx⟩:=id hx
   have HXX:=Lib.hid hxx
   clear hxx
   have ho5:=ho.below hb5
   have hb9:=nx hb hb5
   have hlk : (ls.take k).length = k:=by rw [List.length_take,HL.out]; omega
   go_wp2_with (at_builtin; refine appI rfl _ _ rfl w.heap.size u3 (ls.take k) rfl (ho5.below ((Below.refl _ _).alloc (Nat.le_refl _) _)) w5.heap.size 1 s a l c z rfl (Blk.new _ _ _) (hx.ext (lx ((Below.refl _ _).alloc (Nat.le_refl _) _))) (by rw [hlk]; omega) (by have:=hb9.size; simp; omega) ?_; intro v' w' hown hgr hxg)
   have hgr : World.grownBy (w5.alloc (.cells #[.bool s,.slice a l c] tI)) w' (Value.ownBlock u3):=hgr
   have hB9 : Below w.heap.size w w':=(hb9.alloc hb9.size _).grown hgr (by have:=hb9.size; simp; omega) (fun g hg=>ho.own g hg)
   go_roundw
   case rel=>exact ⟨k + 1,by omega,by simp,by rw [hd.out]; exact hown,hB9⟩
   case measure=>simp [intOf]; omega
  ·obtain rfl : k = n:=by omega
   rw [<-HL.out,List.take_length] at ho
   go_wp2
   go_ret
   exact ⟨_,rfl,ho,hb⟩
theorem idx_lt {i j R C : Nat} (hi : i < R) (hj : j < C) : i * C + j < R * C:=by
 have : (i + 1) * C<=R * C:=Nat.mul_le_mul_right _ hi
 rw [Nat.add_mul] at this
 omega
set_option maxHeartbeats 4000000 in
set_option maxRecDepth 20000 in
theorem ints_any (v : Value) (R C : Nat) (ls : List Int) (w : World) (h : I64V w v ls) (hl : ls.length = R * C) (hR : R<=1000) (hC : C<=1000) :
  Calls Tryz.prog 42 #[.int .i64 R,.int .i64 C,v] w (RetMat w R C (genM R C (fun i j=>ls.getD (i * C + j) 0))):=by
 obtain ⟨ao,n,cap,rfl,h2,h3,h4,-,-⟩:=id h
 have HL:=Lib.hid h2
 have hnR : n = R * C:=by omega
 have HN:=Lib.hid hnR
 obtain ⟨f,hf⟩ : ∃f : Nat->Nat->Int,(fun i j=>ls.getD (i * C + j) 0) = f:=⟨_,rfl⟩
 rw [hf]
 have HFE : HidS (∀i j,f i j = ls.getD (i * C + j) 0):=⟨fun i j=>by rw [<-hf]⟩
 clear hf h2 hl hnR
 go_enter Tryz.func42,Tryz.ntmps42
 go_upto_region 1 with (fail)
 refine wp_world ?_
 intro W0 hW0
 obtain ⟨hB0,br,hs0⟩:=world1 hW0
 go_wp2_with fail
 refine (r5new_any R C W0 oM oM).mono ?_
 rintro e w2 ⟨u,bs,rfl,⟨hbl,A2,rfl,ho⟩,hb2⟩
 obtain ⟨oo,on,oc,rfl,-,-,-,-⟩:=id ho.rows
 have hlts:=ho.lts
 go_upto_region 2 with (fail)
 refine wp_world ?_
 intro W3 hW3
 obtain ⟨hB3,T5,hs3⟩:=world1 hW3
 have br:=(br.below hb2).below hB3
 have ho:=ho.below hB3
 rw [upTo_start R C f] at ho
 have hBt:=nx (nx hB0 hb2) hB3
 have q2:=hb2.size
 clear hW3 hW0
 go_wp2
 go_loopw [8] (fun iv wr=>∃i : Nat,i<=R/\iv = .int .i64 i/\Below w.heap.size w wr/\Blk wr w.heap.size 28 #[.int .i64 0,.int .i64 0,.slice none 0 0]/\Blk wr w2.heap.size 28 #[.int .i64 R,.int .i64 C,.slice oo on oc]/\RowsO wr W0.heap.size (.slice oo on oc) C bs (genM R C (upTo f i 0))) (fun iv _=>R - (intOf iv).toNat)
 case atStart=>exact ⟨0,by omega,rfl,hBt,br,T5,ho⟩
 case round=>
  obtain ⟨i,hi,rfl,hb,br,T5,ho⟩:=hrel
  by_cases hlt : i < R
  ·go_wp2
   go_loopw [9] (fun jv wr=>∃j : Nat,j<=C/\jv = .int .i64 j/\Below w.heap.size w wr/\Blk wr w.heap.size 28 #[.int .i64 0,.int .i64 0,.slice none 0 0]/\Blk wr w2.heap.size 28 #[.int .i64 R,.int .i64 C,.slice oo on oc]/\RowsO wr W0.heap.size (.slice oo on oc) C bs (genM R C (upTo f i j))) (fun jv _=>C - (intOf jv).toNat)
   case atStart=>exact ⟨0,by omega,rfl,hb,br,T5,ho⟩
   case round=>
    obtain ⟨j,hj,rfl,hb,br,T5,ho⟩:=hrel
    by_cases hjc : j < C
    ·have hmn : i * C + j < n:=by rw [HN.out]; exact idx_lt hlt hjc
     have hn6 : n<=1000000:=by rw [HN.out]; exact Nat.le_trans (Nat.mul_le_mul hR hC) oM
     obtain ⟨m,hm⟩ : ∃m,i * C + j = m:=⟨_,rfl⟩
     have hmi : (i : Int) * (C : Int) + (j : Int) = (m : Int):=by rw [<-hm,Int.natCast_add,Int.natCast_mul]
     have hp0 : 0<=(i : Int) * (C : Int):=by omega
     have hp1 : (i : Int) * (C : Int)<=1000000:=by omega
     have hw1 : IntKind.i64.wrap ((i : Int) * (C : Int)) = (i : Int) * (C : Int):=IntWalk.i64_in _ oM
     have hw2 : IntKind.i64.wrap (m : Int) = (m : Int):=IntWalk.i64_in _ oM
     have hmlt : m < n:=by omega
     have hlt3 : (i : Int) * (C : Int) + (j : Int) < (n : Int):=by omega
     obtain ⟨b,z,rfl,hbl1,hz,c1,z1,z2⟩:=(h.below hb).cell (k:=m) (by rw [HL.out]; exact hmlt)
     have hent : Hid (f i j = z):=by rw [HFE.out,hm,getD_of hz]; exact Lib.hid rfl
     obtain ⟨g,bo,rfl,hg,hbo,hbo2,o1,ho3⟩:=ho.at_ (i:=i) oM
     obtain ⟨f1,f2,f3,f4,f5,f6⟩:=T5.three
     have hio : i < on:=by omega
     have HO3:=Lib.hid ho3
     have HM:=Lib.hid hm
     clear ho3 hm hz
     have lt5:=T5.lt
     go_upto_region 8 with (fail)
     refine wp_region_headed 16 rfl (RI wr (wr.heap.size) _ 45
       [⟨0,33,fun _ v=>v = .pointer (some ⟨w2.heap.size,2,none⟩)⟩,⟨1,34,fun _ v=>v = .slice (some ⟨g,0,none⟩) on oc⟩,⟨2,35,fun _ v=>v = .int .i64 i⟩,⟨3,36,fun _ v=>v = .pointer (some ⟨g,i,none⟩)⟩,⟨4,37,fun _ v=>v = .slice (some ⟨bo,0,none⟩) C C⟩,⟨5,38,fun _ v=>v = .int .i64 j⟩,⟨6,39,fun _ v=>v = .slice (some ⟨b,0,none⟩) n cap⟩,⟨7,40,fun _ v=>v = .int .i64 i⟩,⟨8,41,fun _ v=>v = .int .i64 C⟩,⟨9,42,fun _ v=>v = .int .i64 ((i : Int) * (C : Int))⟩,⟨10,43,fun _ v=>v = .int .i64 j⟩,⟨11,44,fun _ v=>v = .int .i64 m⟩,⟨12,45,fun _ v=>v = .pointer (some ⟨b,m,none⟩)⟩,⟨13,46,fun _ v=>v = .int .i64 z⟩,⟨14,47,fun w v=>IntV w v (z)⟩,⟨15,48,fun _ v=>v = .pointer (some ⟨bo,j * 2,none⟩)⟩]
       [] []) kR RI.start ?fin1 ?steps1
     case steps1=>
      refine ⟨?_,?_,?_,?_,?_,?_,?_,?_,?_,?_,?_,?_,?_,?_,?_,?_,trivial⟩ <;> (intro L T wS hL hd hcl hI K hK; try refine step_wanted rfl ?_)
      ·have zt : T[7]? = some (.pointer (some ⟨w2.heap.size,0,none⟩)):=hI.keep 7 sI sI
       go_simp
       exact hK _ _ (hI.y mm0 rfl)
      ·obtain ⟨v0,zt0,rfl⟩:=hI.v mm0 (hd 0)
       have cc0:=hI.cell f3 oM nom
       go_simp
       exact hK _ _ (hI.y mm1 rfl)
      ·have zt : T[8]? = some (.int .i64 i):=hI.keep 8 sI sI
       go_simp
       exact hK _ _ (hI.y mm2 rfl)
      ·obtain ⟨v1,zt1,rfl⟩:=hI.v mm1 (hd 1)
       obtain ⟨v2,zt2,rfl⟩:=hI.v mm2 (hd 2)
       go_simp
       exact hK _ _ (hI.y mm3 rfl)
      ·obtain ⟨v3,zt3,rfl⟩:=hI.v mm3 (hd 3)
       have cc0:=hI.cell o1 oM nom
       go_simp
       exact hK _ _ (hI.y mm4 rfl)
      ·have zt : T[9]? = some (.int .i64 j):=hI.keep 9 sI sI
       go_simp
       exact hK _ _ (hI.y mm5 rfl)
      ·have zt : T[2]? = some (.slice (some ⟨b,0,none⟩) n cap):=hI.keep 2 sI sI
       go_simp
       exact hK _ _ (hI.y mm6 rfl)
      ·have zt : T[8]? = some (.int .i64 i):=hI.keep 8 sI sI
       go_simp
       exact hK _ _ (hI.y mm7 rfl)
      ·have zt : T[1]? = some (.int .i64 C):=hI.keep 1 sI sI
       go_simp
       exact hK _ _ (hI.y mm8 rfl)
      ·obtain ⟨v7,zt7,rfl⟩:=hI.v mm7 (hd 7)
       obtain ⟨v8,zt8,rfl⟩:=hI.v mm8 (hd 8)
       go_simp
       exact hK _ _ (hI.y mm9 rfl)
      ·have zt : T[9]? = some (.int .i64 j):=hI.keep 9 sI sI
       go_simp
       exact hK _ _ (hI.y mm10 rfl)
      ·obtain ⟨v9,zt9,rfl⟩:=hI.v mm9 (hd 9)
       obtain ⟨v10,zt10,rfl⟩:=hI.v mm10 (hd 10)
       go_simp
       exact hK _ _ (hI.y mm11 rfl)
      ·obtain ⟨v6,zt6,rfl⟩:=hI.v mm6 (hd 6)
       obtain ⟨v11,zt11,rfl⟩:=hI.v mm11 (hd 11)
       go_simp
       exact hK _ _ (hI.y mm12 rfl)
      ·obtain ⟨v12,zt12,rfl⟩:=hI.v mm12 (hd 12)
       have cc0:=hI.cell c1 oM nom
       go_simp
       exact hK _ _ (hI.y mm13 rfl)
      ·obtain ⟨v13,zt13,rfl⟩:=hI.v mm13 (hd 13)
       go_simp
       refine (r1of_any z _ z1 z2).mono ?_
       rintro e wa ⟨v,rfl,hv,hba⟩
       exact hK _ _ ((hI.world hba).y mm14 hv)
      ·obtain ⟨v4,zt4,rfl⟩:=hI.v mm4 (hd 4)
       obtain ⟨v5,zt5,rfl⟩:=hI.v mm5 (hd 5)
       go_simp
       exact hK _ _ (hI.y mm15 rfl)
     intro T w9 hI
     obtain ⟨va0,q0,rfl⟩:=hI.v mm0 rfl
     obtain ⟨va1,q1,rfl⟩:=hI.v mm1 rfl
     obtain ⟨va2,q2,rfl⟩:=hI.v mm2 rfl
     obtain ⟨va3,q3,rfl⟩:=hI.v mm3 rfl
     obtain ⟨va4,q4,rfl⟩:=hI.v mm4 rfl
     obtain ⟨va5,q5,rfl⟩:=hI.v mm5 rfl
     obtain ⟨va6,q6,rfl⟩:=hI.v mm6 rfl
     obtain ⟨va7,q7,rfl⟩:=hI.v mm7 rfl
     obtain ⟨va8,q8,rfl⟩:=hI.v mm8 rfl
     obtain ⟨va9,q9,rfl⟩:=hI.v mm9 rfl
     obtain ⟨va10,q10,rfl⟩:=hI.v mm10 rfl
     obtain ⟨va11,q11,rfl⟩:=hI.v mm11 rfl
     obtain ⟨va12,q12,rfl⟩:=hI.v mm12 rfl
     obtain ⟨va13,q13,rfl⟩:=hI.v mm13 rfl
     obtain ⟨va14,q14,ha14⟩:=hI.v mm14 rfl
     replace ha14 : IntV w9 va14 (z):=ha14
     obtain ⟨va15,q15,rfl⟩:=hI.v mm15 rfl
     have hT:=tmps_set [(33,.pointer (some ⟨w2.heap.size,2,none⟩)),(34,.slice (some ⟨g,0,none⟩) on oc),(35,.int .i64 i),(36,.pointer (some ⟨g,i,none⟩)),(37,.slice (some ⟨bo,0,none⟩) C C),(38,.int .i64 j),(39,.slice (some ⟨b,0,none⟩) n cap),(40,.int .i64 i),(41,.int .i64 C),(42,.int .i64 ((i : Int) * (C : Int))),(43,.int .i64 j),(44,.int .i64 m),(45,.pointer (some ⟨b,m,none⟩)),(46,.int .i64 z),(47,va14),(48,.pointer (some ⟨bo,j * 2,none⟩))]
      (fun j hj=>hI.keep j (by simp only [List.forall_mem_cons] at hj ⊢; simp [hj]) (by simp only [List.forall_mem_cons] at hj ⊢; simp [hj]))
      (by simp only [List.forall_mem_cons]; simp [q0,q1,q2,q3,q4,q5,q6,q7,q8,q9,q10,q11,q12,q13,q14,q15]) hI.size
     have hlw9:=hI.lext
     have hbw9:=hI.bel (wr.heap.size) oM nom
     have holdw9:=hI.old
     clear hI
     simp only [List.foldl_cons,List.foldl_nil,List.setIfInBounds_toArray,List.set_cons_zero,List.set_cons_succ,ptr] at hT
     subst hT
     clear q0 q1 q2 q3 q4 q5 q6 q7 q8 q9 q10 q11 q12 q13 q14 q15
     simp only [List.drop_succ_cons,List.drop_zero]
     obtain ⟨pn,pa,pl,pc,px,rfl,hpx⟩:=id ha14
     have HPX:=Lib.hid hpx
     clear hpx
     have ho9:=ho.below hbw9
     obtain ⟨sn,sa,sl,sc,y1,y2,y3,y4,-⟩:=ho9.cellAt hbo hjc
     have hbolt:=hlts i bo hbo
     have hset:=ho9.set hbo hjc ha14
     clear hw1 hw2 hmi hp0 hp1 hlt3
     go_wp2
     go_roundw
     case rel=>
      rw [<-hent.out,upTo_step hlt hjc] at hset
      exact ⟨j + 1,by omega,by simp,bset (bset (nx hb hbw9) oM _ _) oM _ _,(set2_old _ _ _ _ _ _ _ oM).trans (br.below hbw9),(set2_old _ _ _ _ _ _ _ oM).trans (T5.below hbw9),hset.1⟩
     case measure=>simp [intOf]; omega
    ·obtain rfl : j = C:=by omega
     rw [upTo_row] at ho
     go_wp2
     go_roundw
     case rel=>exact ⟨i + 1,by omega,by simp,hb,br,T5,ho⟩
     case measure=>simp [intOf]; omega
  ·obtain rfl : i = R:=by omega
   rw [upTo_end] at ho
   obtain ⟨f1,f2,f3,f4,f5,f6⟩:=T5.three
   obtain ⟨r1,r2,r3,r4,r5,r6⟩:=br.three
   have q1:=hB0.size
   go_wp2
   refine bodyPost_mat rfl rfl rfl (br.put3 _ _ _) ⟨_,bs,rfl,⟨hbl,_,rfl,?_⟩,bset (bset (bset hb oM 0 _) oM 1 _) oM 2 _⟩
   exact (ho.keep (fun k hk=>set3_old _ _ k _ _ _ oM) (br.lext3 dE _ _ _)).mono q1
set_option maxHeartbeats 1000000 in
set_option maxRecDepth 20000 in
theorem r13same_any (v1 v2 : Value) (xs ys : List Int) (w : World) (h1 : VecV w v1 xs) (h2 : VecV w v2 ys) :
  Calls Tryz.prog 17 #[v1,v2] w fun e w'=>e = .returned (.bool (decide (xs = ys)))/\Below w.heap.size w w':=by
 obtain ⟨ao,n,cap,rfl,-⟩:=id h1
 obtain ⟨bo,m,bcap,rfl,-⟩:=id h2
 obtain ⟨ans,ha⟩ : ∃ans,decide (xs = ys) = ans:=⟨_,rfl⟩
 have hc : ∀W,VecV W (.slice ao n cap) xs->VecV W (.slice bo m bcap) ys->Calls Tryz.prog 45 #[.slice ao n cap,.slice bo m bcap] W fun e w'=>e = .returned (.bool ans)/\Below W.heap.size W w':=fun W k1 k2=>by
  have:=samevec_any _ _ xs ys W k1 k2
  rwa [ha] at this
 rw [ha]
 clear ha
 go_enter Tryz.func17,Tryz.ntmps17
 go_wp2_with fail
 refine (hc w h1 h2).mono ?_
 rintro e w1 ⟨rfl,hb⟩
 go_wp2
 go_ret
 exact ⟨rfl,hb⟩

end Go.Proofs.YtnocgagoaldfnaaGreat
