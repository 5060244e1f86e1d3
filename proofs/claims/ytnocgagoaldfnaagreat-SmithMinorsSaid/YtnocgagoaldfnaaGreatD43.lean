/- torsionref13.Check where everything holds. -/
import Derived.Test.YtnocgagoaldfnaaGreatD19
import Derived.Test.YtnocgagoaldfnaaGreatD38
set_option linter.unusedVariables false
set_option linter.unusedSimpArgs false
set_option linter.unusedSectionVars false
namespace Go.Proofs.YtnocgagoaldfnaaGreat
open Go.RowKit
structure SmithV (w : World) (f : Value) (R C : Nat) (S U V W X : List (List Int)) : Prop where
 ex : ∃s u v x y,f = .agg #[.int .i64 R,.int .i64 C,s,.int .i64 R,.int .i64 R,u,.int .i64 R,.int .i64 R,v,.int .i64 C,.int .i64 C,x,.int .i64 C,.int .i64 C,y]/\RowsV w s S/\RowsV w u U/\RowsV w v V/\RowsV w x W/\RowsV w y X
set_option maxHeartbeats 8000000 in
set_option maxRecDepth 20000 in
theorem r13check_true (av fv : Value) (R C : Nat) (A S U V W X : List (List Int)) (w : World) (ha : MatV w av R C A) (hf : SmithV w fv R C S U V W X) (hA : Fits R C A) (hSf : Fits R C S) (hU : Fits R R U) (hW : Fits C C W) (hR : R<=1000000) (hC : C<=1000000)
  (hIs : IsM R C S = true) (hI1 : InvM R R R R R U V = true) (hI2 : InvM C C C C C W X = true) (hSS : ∀r ∈ S,∀z ∈ r,Smd z) (hm1 : Fits R R V->MulSm U V R R R) (hm2 : Fits C C X->MulSm W X C C C)
  (hm3 : MulSm U A R R C) (hm4 : MulSm (genM R C (mulf U A R)) W R C C) (hP : genM R C (mulf (genM R C (mulf U A R)) W C) = S) :
  Calls Tryz.prog 20 #[av,fv] w fun e w'=>e = .returned (.bool true)/\Below w.heap.size w w':=by
 obtain ⟨s0,u0,v0,x0,y0,rfl,hs0,hu0,hv0,hx0,hy0⟩:=hf.ex
 obtain ⟨so,sn,sc,rfl,-⟩:=id hs0
 obtain ⟨uo,un,uc,rfl,-⟩:=id hu0
 obtain ⟨vo,vn,vc,rfl,-⟩:=id hv0
 obtain ⟨xo,xn,xc,rfl,-⟩:=id hx0
 obtain ⟨yo,yn,yc,rfl,-⟩:=id hy0
 obtain ⟨A1,rfl,hA1⟩:=id ha
 obtain ⟨ao,an,ac,rfl,-⟩:=id hA1
 have hs : MatV w (.agg #[.int .i64 R,.int .i64 C,.slice so sn sc]) R C S:=⟨_,rfl,hs0⟩
 have hu : MatV w (.agg #[.int .i64 R,.int .i64 R,.slice uo un uc]) R R U:=⟨_,rfl,hu0⟩
 have hv : MatV w (.agg #[.int .i64 R,.int .i64 R,.slice vo vn vc]) R R V:=⟨_,rfl,hv0⟩
 have hx : MatV w (.agg #[.int .i64 C,.int .i64 C,.slice xo xn xc]) C C W:=⟨_,rfl,hx0⟩
 have hy : MatV w (.agg #[.int .i64 C,.int .i64 C,.slice yo yn yc]) C C X:=⟨_,rfl,hy0⟩
 have hcV : ∀Q,MatV Q (.agg #[.int .i64 R,.int .i64 C,.slice ao an ac]) R C A->Calls Tryz.prog 63 #[.agg #[.int .i64 R,.int .i64 C,.slice ao an ac]] Q fun e w'=>e = .returned (.bool true)/\Below Q.heap.size Q w':=fun Q hq=>by
  have:=r5valid_any _ R C A Q hq
  rwa [decide_eq_true hA.valid] at this
 have hcI : ∀Q,MatV Q (.agg #[.int .i64 R,.int .i64 C,.slice so sn sc]) R C S->Calls Tryz.prog 27 #[.agg #[.int .i64 R,.int .i64 C,.slice so sn sc]] Q fun e w'=>e = .returned (.bool true)/\Below Q.heap.size Q w':=fun Q hq=>by
  have:=r13is_any _ R C S Q hq hSS
  rwa [hIs] at this
 have hcS:=sized_ans (.agg #[.int .i64 R,.int .i64 C,.slice so sn sc]) R C R C S true (decide_eq_true ⟨rfl,rfl,hSf.valid⟩)
 have hc1 : ∀Q,MatV Q (.agg #[.int .i64 R,.int .i64 R,.slice uo un uc]) R R U->MatV Q (.agg #[.int .i64 R,.int .i64 R,.slice vo vn vc]) R R V->Calls Tryz.prog 65 #[.agg #[.int .i64 R,.int .i64 R,.slice uo un uc],.agg #[.int .i64 R,.int .i64 R,.slice vo vn vc],.int .i64 R] Q fun e w'=>e = .returned (.bool true)/\Below Q.heap.size Q w':=fun Q hq hq2=>by
  have:=inverse_any _ _ R R R R R U V Q hq hq2 hR (fun _ h=>hm1 h)
  rwa [hI1] at this
 have hc2 : ∀Q,MatV Q (.agg #[.int .i64 C,.int .i64 C,.slice xo xn xc]) C C W->MatV Q (.agg #[.int .i64 C,.int .i64 C,.slice yo yn yc]) C C X->Calls Tryz.prog 65 #[.agg #[.int .i64 C,.int .i64 C,.slice xo xn xc],.agg #[.int .i64 C,.int .i64 C,.slice yo yn yc],.int .i64 C] Q fun e w'=>e = .returned (.bool true)/\Below Q.heap.size Q w':=fun Q hq hq2=>by
  have:=inverse_any _ _ C C C C C W X Q hq hq2 hC (fun _ h=>hm2 h)
  rwa [hI2] at this
 have hcP1:=fun (a b : Value) (Q : World) h1 h2=>r5product_any a b R R C U A Q h1 h2 hU hA hR hR hC hm3
 have hcP2:=fun (a b : Value) (Q : World) h1 h2=>r5product_any a b R C C (genM R C (mulf U A R)) W Q h1 h2 (genM_fits _ _ _) hW hR hC hC hm4
 have hsame : ∀(a b : Value) (Q : World),MatV Q a R C (genM R C (mulf (genM R C (mulf U A R)) W C))->MatV Q b R C S->Calls Tryz.prog 14 #[a,b] Q fun e w'=>e = .returned (.bool true)/\Below Q.heap.size Q w':=fun a b Q h1 h2=>by
  have:=same_any a b R C R C _ _ Q h1 h2
  rwa [decide_eq_true ⟨rfl,rfl,hP⟩] at this
 clear hf hA hSf hU hW hIs hI1 hI2 hSS hm1 hm2 hm3 hm4 hP
 clear hs0 hu0 hv0 hx0 hy0 hA1
 go_enter Tryz.func20,Tryz.ntmps20
 go_upto_region 1 with (fail)
 refine wp_world ?_
 intro W0 hW0
 obtain ⟨hB0,bx1,bx2,hs0⟩:=world2 hW0
 obtain ⟨c1,c2,c3,c4,c5,c6⟩:=bx1.three
 go_wp2_with fail
 refine (hcV W0 (ha.below hB0)).mono ?_
 rintro e w1 ⟨rfl,hb1⟩
 clear c1 c2 c3 c4 c5 c6
 have bx1:=bx1.below hb1
 have bx2:=bx2.below hb1
 have hBt:=nx hB0 hb1
 obtain ⟨c1,c2,c3,c4,c5,c6⟩:=bx1.three
 have p0 : w1.cell? ⟨w.heap.size + 1,0,none⟩ = some (.int .i64 R):=bx2.cell 0
 have p1 : w1.cell? ⟨w.heap.size + 1,1,none⟩ = some (.int .i64 C):=bx2.cell 1
 have p2 : w1.cell? ⟨w.heap.size + 1,2,none⟩ = some (.slice so sn sc):=bx2.cell 2
 have p3 : w1.cell? ⟨w.heap.size + 1,3,none⟩ = some (.int .i64 R):=bx2.cell 3
 have p4 : w1.cell? ⟨w.heap.size + 1,4,none⟩ = some (.int .i64 R):=bx2.cell 4
 have p5 : w1.cell? ⟨w.heap.size + 1,5,none⟩ = some (.slice uo un uc):=bx2.cell 5
 have p6 : w1.cell? ⟨w.heap.size + 1,6,none⟩ = some (.int .i64 R):=bx2.cell 6
 have p7 : w1.cell? ⟨w.heap.size + 1,7,none⟩ = some (.int .i64 R):=bx2.cell 7
 have p8 : w1.cell? ⟨w.heap.size + 1,8,none⟩ = some (.slice vo vn vc):=bx2.cell 8
 have p9 : w1.cell? ⟨w.heap.size + 1,9,none⟩ = some (.int .i64 C):=bx2.cell 9
 have p10 : w1.cell? ⟨w.heap.size + 1,10,none⟩ = some (.int .i64 C):=bx2.cell 10
 have p11 : w1.cell? ⟨w.heap.size + 1,11,none⟩ = some (.slice xo xn xc):=bx2.cell 11
 have p12 : w1.cell? ⟨w.heap.size + 1,12,none⟩ = some (.int .i64 C):=bx2.cell 12
 have p13 : w1.cell? ⟨w.heap.size + 1,13,none⟩ = some (.int .i64 C):=bx2.cell 13
 have p14 : w1.cell? ⟨w.heap.size + 1,14,none⟩ = some (.slice yo yn yc):=bx2.cell 14
 go_wp2_with fail
 refine (hcI w1 (hs.below hBt)).mono ?_
 rintro e w2 ⟨rfl,hb2⟩
 clear p0 p1 p2 p3 p4 p5 p6 p7 p8 p9 p10 p11 p12 p13 p14 c1 c2 c3 c4 c5 c6
 have bx1:=bx1.below hb2
 have bx2:=bx2.below hb2
 have hBt:=nx hBt hb2
 obtain ⟨c1,c2,c3,c4,c5,c6⟩:=bx1.three
 have p0 : w2.cell? ⟨w.heap.size + 1,0,none⟩ = some (.int .i64 R):=bx2.cell 0
 have p1 : w2.cell? ⟨w.heap.size + 1,1,none⟩ = some (.int .i64 C):=bx2.cell 1
 have p2 : w2.cell? ⟨w.heap.size + 1,2,none⟩ = some (.slice so sn sc):=bx2.cell 2
 have p3 : w2.cell? ⟨w.heap.size + 1,3,none⟩ = some (.int .i64 R):=bx2.cell 3
 have p4 : w2.cell? ⟨w.heap.size + 1,4,none⟩ = some (.int .i64 R):=bx2.cell 4
 have p5 : w2.cell? ⟨w.heap.size + 1,5,none⟩ = some (.slice uo un uc):=bx2.cell 5
 have p6 : w2.cell? ⟨w.heap.size + 1,6,none⟩ = some (.int .i64 R):=bx2.cell 6
 have p7 : w2.cell? ⟨w.heap.size + 1,7,none⟩ = some (.int .i64 R):=bx2.cell 7
 have p8 : w2.cell? ⟨w.heap.size + 1,8,none⟩ = some (.slice vo vn vc):=bx2.cell 8
 have p9 : w2.cell? ⟨w.heap.size + 1,9,none⟩ = some (.int .i64 C):=bx2.cell 9
 have p10 : w2.cell? ⟨w.heap.size + 1,10,none⟩ = some (.int .i64 C):=bx2.cell 10
 have p11 : w2.cell? ⟨w.heap.size + 1,11,none⟩ = some (.slice xo xn xc):=bx2.cell 11
 have p12 : w2.cell? ⟨w.heap.size + 1,12,none⟩ = some (.int .i64 C):=bx2.cell 12
 have p13 : w2.cell? ⟨w.heap.size + 1,13,none⟩ = some (.int .i64 C):=bx2.cell 13
 have p14 : w2.cell? ⟨w.heap.size + 1,14,none⟩ = some (.slice yo yn yc):=bx2.cell 14
 go_wp2_with fail
 refine (hcS w2 (hs.below hBt)).mono ?_
 rintro e w3 ⟨rfl,hb3⟩
 clear p0 p1 p2 p3 p4 p5 p6 p7 p8 p9 p10 p11 p12 p13 p14 c1 c2 c3 c4 c5 c6
 have bx1:=bx1.below hb3
 have bx2:=bx2.below hb3
 have hBt:=nx hBt hb3
 obtain ⟨c1,c2,c3,c4,c5,c6⟩:=bx1.three
 have p0 : w3.cell? ⟨w.heap.size + 1,0,none⟩ = some (.int .i64 R):=bx2.cell 0
 have p1 : w3.cell? ⟨w.heap.size + 1,1,none⟩ = some (.int .i64 C):=bx2.cell 1
 have p2 : w3.cell? ⟨w.heap.size + 1,2,none⟩ = some (.slice so sn sc):=bx2.cell 2
 have p3 : w3.cell? ⟨w.heap.size + 1,3,none⟩ = some (.int .i64 R):=bx2.cell 3
 have p4 : w3.cell? ⟨w.heap.size + 1,4,none⟩ = some (.int .i64 R):=bx2.cell 4
 have p5 : w3.cell? ⟨w.heap.size + 1,5,none⟩ = some (.slice uo un uc):=bx2.cell 5
 have p6 : w3.cell? ⟨w.heap.size + 1,6,none⟩ = some (.int .i64 R):=bx2.cell 6
 have p7 : w3.cell? ⟨w.heap.size + 1,7,none⟩ = some (.int .i64 R):=bx2.cell 7
 have p8 : w3.cell? ⟨w.heap.size + 1,8,none⟩ = some (.slice vo vn vc):=bx2.cell 8
 have p9 : w3.cell? ⟨w.heap.size + 1,9,none⟩ = some (.int .i64 C):=bx2.cell 9
 have p10 : w3.cell? ⟨w.heap.size + 1,10,none⟩ = some (.int .i64 C):=bx2.cell 10
 have p11 : w3.cell? ⟨w.heap.size + 1,11,none⟩ = some (.slice xo xn xc):=bx2.cell 11
 have p12 : w3.cell? ⟨w.heap.size + 1,12,none⟩ = some (.int .i64 C):=bx2.cell 12
 have p13 : w3.cell? ⟨w.heap.size + 1,13,none⟩ = some (.int .i64 C):=bx2.cell 13
 have p14 : w3.cell? ⟨w.heap.size + 1,14,none⟩ = some (.slice yo yn yc):=bx2.cell 14
 go_wp2_with fail
 refine (hc1 w3 (hu.below hBt) (hv.below hBt)).mono ?_
 rintro e w4 ⟨rfl,hb4⟩
 clear p0 p1 p2 p3 p4 p5 p6 p7 p8 p9 p10 p11 p12 p13 p14 c1 c2 c3 c4 c5 c6
 have bx1:=bx1.below hb4
 have bx2:=bx2.below hb4
 have hBt:=nx hBt hb4
 obtain ⟨c1,c2,c3,c4,c5,c6⟩:=bx1.three
 have p0 : w4.cell? ⟨w.heap.size + 1,0,none⟩ = some (.int .i64 R):=bx2.cell 0
 have p1 : w4.cell? ⟨w.heap.size + 1,1,none⟩ = some (.int .i64 C):=bx2.cell 1
 have p2 : w4.cell? ⟨w.heap.size + 1,2,none⟩ = some (.slice so sn sc):=bx2.cell 2
 have p3 : w4.cell? ⟨w.heap.size + 1,3,none⟩ = some (.int .i64 R):=bx2.cell 3
 have p4 : w4.cell? ⟨w.heap.size + 1,4,none⟩ = some (.int .i64 R):=bx2.cell 4
 have p5 : w4.cell? ⟨w.heap.size + 1,5,none⟩ = some (.slice uo un uc):=bx2.cell 5
 have p6 : w4.cell? ⟨w.heap.size + 1,6,none⟩ = some (.int .i64 R):=bx2.cell 6
 have p7 : w4.cell? ⟨w.heap.size + 1,7,none⟩ = some (.int .i64 R):=bx2.cell 7
 have p8 : w4.cell? ⟨w.heap.size + 1,8,none⟩ = some (.slice vo vn vc):=bx2.cell 8
 have p9 : w4.cell? ⟨w.heap.size + 1,9,none⟩ = some (.int .i64 C):=bx2.cell 9
 have p10 : w4.cell? ⟨w.heap.size + 1,10,none⟩ = some (.int .i64 C):=bx2.cell 10
 have p11 : w4.cell? ⟨w.heap.size + 1,11,none⟩ = some (.slice xo xn xc):=bx2.cell 11
 have p12 : w4.cell? ⟨w.heap.size + 1,12,none⟩ = some (.int .i64 C):=bx2.cell 12
 have p13 : w4.cell? ⟨w.heap.size + 1,13,none⟩ = some (.int .i64 C):=bx2.cell 13
 have p14 : w4.cell? ⟨w.heap.size + 1,14,none⟩ = some (.slice yo yn yc):=bx2.cell 14
 go_wp2_with fail
 refine (hc2 w4 (hx.below hBt) (hy.below hBt)).mono ?_
 rintro e w5 ⟨rfl,hb5⟩
 clear p0 p1 p2 p3 p4 p5 p6 p7 p8 p9 p10 p11 p12 p13 p14 c1 c2 c3 c4 c5 c6
 have bx1:=bx1.below hb5
 have bx2:=bx2.below hb5
 have hBt:=nx hBt hb5
 obtain ⟨c1,c2,c3,c4,c5,c6⟩:=bx1.three
 have p0 : w5.cell? ⟨w.heap.size + 1,0,none⟩ = some (.int .i64 R):=bx2.cell 0
 have p1 : w5.cell? ⟨w.heap.size + 1,1,none⟩ = some (.int .i64 C):=bx2.cell 1
 have p2 : w5.cell? ⟨w.heap.size + 1,2,none⟩ = some (.slice so sn sc):=bx2.cell 2
 have p3 : w5.cell? ⟨w.heap.size + 1,3,none⟩ = some (.int .i64 R):=bx2.cell 3
 have p4 : w5.cell? ⟨w.heap.size + 1,4,none⟩ = some (.int .i64 R):=bx2.cell 4
 have p5 : w5.cell? ⟨w.heap.size + 1,5,none⟩ = some (.slice uo un uc):=bx2.cell 5
 have p6 : w5.cell? ⟨w.heap.size + 1,6,none⟩ = some (.int .i64 R):=bx2.cell 6
 have p7 : w5.cell? ⟨w.heap.size + 1,7,none⟩ = some (.int .i64 R):=bx2.cell 7
 have p8 : w5.cell? ⟨w.heap.size + 1,8,none⟩ = some (.slice vo vn vc):=bx2.cell 8
 have p9 : w5.cell? ⟨w.heap.size + 1,9,none⟩ = some (.int .i64 C):=bx2.cell 9
 have p10 : w5.cell? ⟨w.heap.size + 1,10,none⟩ = some (.int .i64 C):=bx2.cell 10
 have p11 : w5.cell? ⟨w.heap.size + 1,11,none⟩ = some (.slice xo xn xc):=bx2.cell 11
 have p12 : w5.cell? ⟨w.heap.size + 1,12,none⟩ = some (.int .i64 C):=bx2.cell 12
 have p13 : w5.cell? ⟨w.heap.size + 1,13,none⟩ = some (.int .i64 C):=bx2.cell 13
 have p14 : w5.cell? ⟨w.heap.size + 1,14,none⟩ = some (.slice yo yn yc):=bx2.cell 14
 go_upto_region 3 with (fail)
 refine wp_region_headed 10 rfl (RV w5 _ [⟨0,44,fun _ v=>v = .pointer (some ⟨w.heap.size + 1,3,none⟩)⟩,⟨1,45,fun _ v=>v = .agg #[.int .i64 R,.int .i64 R,.slice uo un uc]⟩,⟨2,46,fun _ v=>v = .agg #[.int .i64 R,.int .i64 C,.slice ao an ac]⟩,⟨3,47,fun w v=>MatV w v (R) (C) (genM R C (mulf U A R))⟩,⟨4,48,fun _ v=>v = .pointer (some ⟨w.heap.size + 1,9,none⟩)⟩,⟨5,49,fun _ v=>v = .agg #[.int .i64 C,.int .i64 C,.slice xo xn xc]⟩,⟨6,50,fun w v=>MatV w v (R) (C) (genM R C (mulf (genM R C (mulf U A R)) W C))⟩,⟨7,51,fun _ v=>v = .pointer (some ⟨w.heap.size + 1,0,none⟩)⟩,⟨8,52,fun _ v=>v = .agg #[.int .i64 R,.int .i64 C,.slice so sn sc]⟩,⟨9,53,fun _ v=>v = .bool true⟩]) kR RV.start ?fin1 ?steps1
 case steps1=>
  refine ⟨?_,?_,?_,?_,?_,?_,?_,?_,?_,?_,trivial⟩ <;> (intro L T wS hL hd hcl hI K hK; try refine step_wanted rfl ?_)
  ·have zt : T[3]? = some (.pointer (some ⟨w.heap.size + 1,0,none⟩)):=hI.keep 3 sI
   go_simp
   exact hK _ _ (hI.y mm0 rfl)
  ·obtain ⟨_,zt0,rfl⟩:=hI.v mm0 (hd 0)
   have cc0:=hI.cell p3
   have cc1:=hI.cell p4
   have cc2:=hI.cell p5
   go_simp
   exact hK _ _ (hI.y mm1 rfl)
  ·have zt : T[2]? = some (.pointer (some ⟨w.heap.size,0,none⟩)):=hI.keep 2 sI
   have cc0:=hI.cell c1
   have cc1:=hI.cell c2
   have cc2:=hI.cell c3
   go_simp
   exact hK _ _ (hI.y mm2 rfl)
  ·obtain ⟨_,zt1,rfl⟩:=hI.v mm1 (hd 1)
   obtain ⟨_,zt2,rfl⟩:=hI.v mm2 (hd 2)
   go_simp
   refine (hcP1 _ _ _ (hu.below (nx hBt hI.bel)) (ha.below (nx hBt hI.bel))).mono ?_
   (rintro e wa ⟨v,bs,rfl,hv,hba⟩; replace hv:=hv.mat.1)
   exact hK _ _ ((hI.world hba).y mm3 hv)
  ·have zt : T[3]? = some (.pointer (some ⟨w.heap.size + 1,0,none⟩)):=hI.keep 3 sI
   go_simp
   exact hK _ _ (hI.y mm4 rfl)
  ·obtain ⟨_,zt4,rfl⟩:=hI.v mm4 (hd 4)
   have cc0:=hI.cell p9
   have cc1:=hI.cell p10
   have cc2:=hI.cell p11
   go_simp
   exact hK _ _ (hI.y mm5 rfl)
  ·obtain ⟨v3,zt3,h3⟩:=hI.v mm3 (hd 3)
   obtain ⟨_,zt5,rfl⟩:=hI.v mm5 (hd 5)
   go_simp
   refine (hcP2 _ _ _ h3 (hx.below (nx hBt hI.bel))).mono ?_
   (rintro e wa ⟨v,bs,rfl,hv,hba⟩; replace hv:=hv.mat.1)
   exact hK _ _ ((hI.world hba).y mm6 hv)
  ·have zt : T[3]? = some (.pointer (some ⟨w.heap.size + 1,0,none⟩)):=hI.keep 3 sI
   go_simp
   exact hK _ _ (hI.y mm7 rfl)
  ·obtain ⟨_,zt7,rfl⟩:=hI.v mm7 (hd 7)
   have cc0:=hI.cell p0
   have cc1:=hI.cell p1
   have cc2:=hI.cell p2
   go_simp
   exact hK _ _ (hI.y mm8 rfl)
  ·obtain ⟨v6,zt6,h6⟩:=hI.v mm6 (hd 6)
   obtain ⟨_,zt8,rfl⟩:=hI.v mm8 (hd 8)
   go_simp
   refine (hsame _ _ _ h6 (hs.below (nx hBt hI.bel))).mono ?_
   (rintro e wa ⟨rfl,hba⟩; have hv : (Value.bool true) = .bool true:=rfl)
   exact hK _ _ ((hI.world hba).y mm9 hv)
 intro T w6 hI
 obtain ⟨va0,q0,rfl⟩:=hI.v mm0 rfl
 obtain ⟨va1,q1,rfl⟩:=hI.v mm1 rfl
 obtain ⟨va2,q2,rfl⟩:=hI.v mm2 rfl
 obtain ⟨va3,q3,ha3⟩:=hI.v mm3 rfl
 replace ha3 : MatV w6 va3 (R) (C) (genM R C (mulf U A R)):=ha3
 obtain ⟨va4,q4,rfl⟩:=hI.v mm4 rfl
 obtain ⟨va5,q5,rfl⟩:=hI.v mm5 rfl
 obtain ⟨va6,q6,ha6⟩:=hI.v mm6 rfl
 replace ha6 : MatV w6 va6 (R) (C) (genM R C (mulf (genM R C (mulf U A R)) W C)):=ha6
 obtain ⟨va7,q7,rfl⟩:=hI.v mm7 rfl
 obtain ⟨va8,q8,rfl⟩:=hI.v mm8 rfl
 obtain ⟨va9,q9,rfl⟩:=hI.v mm9 rfl
 have hT:=tmps_set [(44,.pointer (some ⟨w.heap.size + 1,3,none⟩)),(45,.agg #[.int .i64 R,.int .i64 R,.slice uo un uc]),(46,.agg #[.int .i64 R,.int .i64 C,.slice ao an ac]),(47,va3),(48,.pointer (some ⟨w.heap.size + 1,9,none⟩)),(49,.agg #[.int .i64 C,.int .i64 C,.slice xo xn xc]),(50,va6),(51,.pointer (some ⟨w.heap.size + 1,0,none⟩)),(52,.agg #[.int .i64 R,.int .i64 C,.slice so sn sc]),(53,.bool true)]
  (fun j hj=>hI.keep j (by simp only [List.forall_mem_cons] at hj ⊢; simp [hj]))
  (by simp only [List.forall_mem_cons]; simp [q0,q1,q2,q3,q4,q5,q6,q7,q8,q9]) hI.size
 have hbw6:=hI.bel
 clear hI
 simp only [List.foldl_cons,List.foldl_nil,List.setIfInBounds_toArray,List.set_cons_zero,List.set_cons_succ,ptr] at hT
 subst hT
 clear q0 q1 q2 q3 q4 q5 q6 q7 q8 q9
 simp only [List.drop_succ_cons,List.drop_zero]
 go_wp2
 go_ret
 exact ⟨rfl,nx hBt hbw6⟩
end Go.Proofs.YtnocgagoaldfnaaGreat
