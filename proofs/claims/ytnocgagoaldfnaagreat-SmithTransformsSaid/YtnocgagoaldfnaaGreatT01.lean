/- torsionlaw13.SmithTransforms: whatever the input, it returns true, and the input reads as it did. No conditions. -/
import Derived.Test.YtnocgagoaldfnaaGreatRows
import Derived.ProofKit
import Derived.OpenShut
import Derived.Test.YtnocgagoaldfnaaGreatB47
import Derived.Test.YtnocgagoaldfnaaGreatB48
import Derived.Test.YtnocgagoaldfnaaGreatB49
set_option linter.unusedVariables false
set_option linter.unusedSimpArgs false
set_option linter.unusedSectionVars false
namespace Go.Proofs.YtnocgagoaldfnaaGreat
open Go.RowKit
theorem sumTo_sumN (f : Nat→Int) (n : Nat) : sumTo f n = sumN n f:=by
 induction n with
 | zero=>rfl
 | succ n ih=>unfold sumTo sumN; rw [ih]
theorem mulf_genM {R m C : Nat} {F G : Nat→Nat→Int} {i j : Nat} (hi : i < R) (hj : j < C) : mulf (genM R m F) (genM m C G) m i j = sumN m fun t=>F i t * G t j:=by
 unfold mulf
 rw [sumTo_sumN]
 exact sumN_congr fun t ht=>by rw [ent_genM hi ht,ent_genM ht hj]
theorem BB3_sm {z : Int} (h : z.natAbs≤BB ^ 3 * 16) : Sm z:=Nat.lt_of_le_of_lt h (Nat.lt_of_le_of_lt BB_pow (B32_pow_lt DLIM LIM (by rw [DLIM_eq,LIM_eq]; omega)))
theorem MulSm_of {R m C a b : Nat} {F G : Nat→Nat→Int} (hF : leM a R m F) (hG : leM b m C G) (hm : m≤4) (ha : a≤BB ^ 3 * 16) (hb : b≤BB ^ 3 * 16) (hab : 4 * (a * b)≤BB ^ 3 * 16) : MulSm (genM R m F) (genM m C G) R m C:=by
 intro i hi j hj k hk
 rw [ent_genM hi hk,ent_genM hk hj]
 have h1:=hF i hi k hk
 have h2:=hG k hk j hj
 have h3:=abs_mul_le h1 h2
 refine ⟨BB3_sm (by omega),BB3_sm (by omega),BB3_sm (by omega),BB3_sm ?_⟩
 unfold mulf
 rw [sumTo_sumN]
 have h4:=sumN_natAbs (n:=k) (f:=fun t=>ent (genM R m F) i t * ent (genM m C G) t j) (B:=a * b) fun t ht=>by
  rw [ent_genM hi (by omega),ent_genM (by omega) hj]
  exact abs_mul_le (hF i hi t (by omega)) (hG t (by omega) j hj)
 have h5 : k * (a * b)≤4 * (a * b):=Nat.mul_le_mul_right _ (by omega)
 omega
theorem leM_of_ok {B R C : Nat} {F : Nat→Nat→Int} (h : okF B R C F) : leM B R C F:=fun a ha b hb=>Nat.le_of_lt (h a ha b hb)
theorem bb_nums {h : Nat} (hh : h≤1048576) : BB≤BB ^ 3 * 16∧h≤BB∧4 * (BB * BB)≤BB ^ 3 * 16∧4 * (BB * h)≤BB ^ 3 * 16∧4 * (BB * BB) * 4 * BB≤BB ^ 3 * 16∧4 * (4 * (BB * h) * BB)≤BB ^ 3 * 16∧4 * (BB * h)≤BB ^ 3 * 16:=by
 have h0 : 1048576≤BB:=Nat.le_trans (by decide) BB_97
 have h1:=BB_pos
 generalize BB = B at *
 have e3 : B ^ 3 * 16 = 16 * (B * (B * B)):=by
  rw [show (3 : Nat) = 2 + 1 from rfl,Nat.pow_succ,Nat.pow_two,Nat.mul_comm,Nat.mul_comm (B * B)]
 have q1 : B≤B * B:=Nat.le_mul_of_pos_left _ h1
 have q2 : B * B≤B * (B * B):=Nat.mul_le_mul_left _ q1
 have q3 : B * h≤B * B:=Nat.mul_le_mul_left _ (by omega)
 have q4 : B * h * B≤B * (B * B):=by
  rw [Nat.mul_assoc]
  exact Nat.mul_le_mul_left _ (Nat.mul_le_mul_right _ (by omega))
 have q5 : 4 * (4 * (B * h) * B) = 16 * (B * h * B):=by rw [Nat.mul_assoc 4,← Nat.mul_assoc 4 4]
 have q6 : 4 * (B * B) * 4 * B = 16 * (B * (B * B)):=by
  rw [Nat.mul_comm (4 * (B * B)) 4,← Nat.mul_assoc,Nat.mul_assoc,Nat.mul_comm (B * B) B]
 rw [e3,q5,q6]
 refine ⟨by omega,by omega,by omega,by omega,by omega,by omega,by omega⟩
structure Chk (R C : Nat) (A S U V W X : List (List Int)) : Prop where
 fs : Fits R C S
 fu : Fits R R U
 fv : Fits R R V
 fw : Fits C C W
 fx : Fits C C X
 is : IsM2 R C S = true
 i1 : genM R R (mulf U V R) = genM R R idf
 i2 : genM C C (mulf W X C) = genM C C idf
 ss : ∀r ∈ S,∀z ∈ r,Smd z
 m1 : MulSm U V R R R
 m2 : MulSm W X C C C
 m3 : MulSm U A R R C
 m4 : MulSm (genM R C (mulf U A R)) W R C C
 p : genM R C (mulf (genM R C (mulf U A R)) W C) = S
theorem genM_smd {R C : Nat} {F : Nat→Nat→Int} (h : okF BB R C F) : ∀r ∈ genM R C F,∀z ∈ r,Smd z:=by
 intro r hr z hz
 unfold genM at hr
 obtain ⟨i,hi,rfl⟩:=List.mem_map.1 hr
 obtain ⟨j,hj,rfl⟩:=List.mem_map.1 hz
 exact BB_smd (h i (List.mem_range.1 hi) j (List.mem_range.1 hj))
theorem Chk.of {R C r : Nat} {M : List (List Int)} {y : W5} (hR : R≤4) (hC : C≤4) (hF : Fits R C M) (hA : leM 1048576 R C (ent M)) (hr : Rel R C (ent M) y) (hI : Inv R C r (ent M) y.s) (hok : okW BB R C R C y) :
  Chk R C M (genM R C y.s) (genM R R y.u) (genM R R (trF y.v)) (genM C C (trF y.w)) (genM C C y.x):=by
 obtain ⟨o1,o2,o3,o4,o5⟩:=hok
 obtain ⟨b1,b2,b3,b4,b5,b6,b7⟩:=bb_nums (h:=1048576) (Nat.le_refl _)
 have eM : M = genM R C (ent M):=fits_genM hF
 have eUA : genM R C (mulf (genM R R y.u) M R) = genM R C fun i t=>sumN R fun s=>y.u i s * ent M s t:=genM_congr fun i hi j hj=>by
  conv=>lhs; rw [eM]
  rw [mulf_genM hi hj]
 have hUA : leM (4 * (BB * 1048576)) R C fun i t=>sumN R fun s=>y.u i s * ent M s t:=fun i hi j hj=>by
  have h1:=sumN_natAbs (n:=R) (f:=fun s=>y.u i s * ent M s j) (B:=BB * 1048576) fun t ht=>abs_mul_le (leM_of_ok o2 i hi t ht) (hA t ht j hj)
  exact Nat.le_trans h1 (Nat.mul_le_mul_right _ hR)
 refine ⟨genM_fits _ _ _,genM_fits _ _ _,genM_fits _ _ _,genM_fits _ _ _,genM_fits _ _ _,dg_isM2 hI.dg hI.chn,genM_congr fun i hi j hj=>?_,genM_congr fun i hi j hj=>?_,genM_smd o1,?_,?_,?_,?_,?_⟩
 ·rw [mulf_genM hi hj]
  exact hr.uv i hi j hj
 ·rw [mulf_genM hi hj]
  have:=hr.xw j hj i hi
  rw [idf_comm i j,← this]
  exact sumN_congr fun t ht=>Int.mul_comm _ _
 ·exact MulSm_of (leM_of_ok o2) (leM_tr (leM_of_ok o3)) hR b1 b1 b3
 ·exact MulSm_of (leM_tr (leM_of_ok o4)) (leM_of_ok o5) hC b1 b1 b3
 ·conv=>arg 2; rw [eM]
  exact MulSm_of (leM_of_ok o2) hA hR b1 (Nat.le_trans b2 b1) b4
 ·rw [eUA]
  exact MulSm_of hUA (leM_tr (leM_of_ok o4)) hC b7 b1 b6
 ·rw [eUA]
  refine genM_congr fun i hi j hj=>?_
  rw [mulf_genM hi hj,hr.s i hi j hj]
  simp only [← sumN_mul,← sumN_mulr]
  rw [sumN_swap]
  refine sumN_congr fun s hs=>sumN_congr fun t ht=>?_
  show y.u i s * ent M s t * y.w j t = y.u i s * (ent M s t * y.w j t)
  rw [Int.mul_assoc]
theorem r13checkB (av fv : Value) (R C : Nat) (A S U V W X : List (List Int)) (w : World) (ha : MatV w av R C A) (hf : SmithV w fv R C S U V W X) (hA : Fits R C A) (hR : R≤1000000) (hC : C≤1000000) (hc : Chk R C A S U V W X) :
  Calls Tryz.prog 20 #[av,fv] w fun e w'=>∃v,e = .returned v∧v = .bool true∧Below w.heap.size w w':=
 (r13check_true av fv R C A S U V W X w ha hf hA hc.fs hc.fu hc.fw hR hC (by rw [isM_eq]; exact hc.is) (by unfold InvM; rw [decide_eq_true ⟨rfl,rfl,hc.fu.valid⟩,decide_eq_true ⟨rfl,rfl,hc.fv.valid⟩,decide_eq_true hc.i1]; rfl) (by unfold InvM; rw [decide_eq_true ⟨rfl,rfl,hc.fw.valid⟩,decide_eq_true ⟨rfl,rfl,hc.fx.valid⟩,decide_eq_true hc.i2]; rfl) hc.ss (fun _=>hc.m1) (fun _=>hc.m2) hc.m3 hc.m4 hc.p).mono fun e w' ⟨h,hb⟩=>⟨_,h,rfl,hb⟩
theorem scheckB (av fv : Value) (R C : Nat) (A S U V W X : List (List Int)) (w : World) (ha : MatV w av R C A) (hf : SmithV w fv R C S U V W X) (hA : Fits R C A) (hR : R≤1000000) (hC : C≤1000000) (hc : Chk R C A S U V W X) :
  Calls Tryz.prog 21 #[av,fv] w fun e w'=>∃v,e = .returned v∧v = .bool true∧Below w.heap.size w w':=
 (scheck_true av fv R C A S U V W X w ha hf hA hc.fs hc.fu hc.fv hc.fw hc.fx hR hC hc.is hc.i1 hc.i2 hc.ss hc.m1 hc.m2 hc.m3 hc.m4 hc.p).mono fun e w' ⟨h,hb⟩=>⟨_,h,rfl,hb⟩
theorem digF_leM (R C D : Nat) (ls : List Int) : leM 9 R C (digF D ls):=fun a _ b _=>digF_le D ls a b
theorem ent_leM {n R C : Nat} {F : Nat→Nat→Int} (h : leM n R C F) : leM n R C (ent (genM R C F)):=fun a ha b hb=>by rw [ent_genM ha hb]; exact h a ha b hb
theorem madeM (v : Value) (r c : Nat) (ls : List Int) (w : World) (h : I8V w v ls) (hr : r≤255) (hc : c≤255) (R C : Nat) (hR : R = r % 5) (hC : C = c % 5) :
  Calls Tryz.prog 13 #[.agg #[.int .u8 r,.int .u8 c,v]] w fun e w'=>∃v,e = .returned v∧MatV w' v R C (genM R C (digF C ls))∧Below w.heap.size w w':=
 (rawMade_any v r c ls w h hr hc R C hR hC).mono fun e w' ⟨v,bs,h,hm,hb⟩=>⟨v,h,hm.mat.1,hb⟩
set_option maxHeartbeats 8000000 in
set_option maxRecDepth 20000 in
theorem smithTransforms_any (v : Value) (r c : Nat) (ls : List Int) (w : World) (h : I8V w v ls) (hr : r≤255) (hc : c≤255) :
  Calls Tryz.prog 4 #[.agg #[.int .u8 r,.int .u8 c,v]] w fun e w'=>e = .returned (.bool true)∧Below w.heap.size w w':=by
 obtain ⟨ao,n,cap,rfl,-,-,-,-,-⟩:=id h
 obtain ⟨R,hR⟩ : ∃R : Nat,R = r % 5:=⟨_,rfl⟩
 obtain ⟨C,hC⟩ : ∃C : Nat,C = c % 5:=⟨_,rfl⟩
 have hR4 : R≤4:=by omega
 have hC4 : C≤4:=by omega
 have HR:=Lib.hid hR
 have HC:=Lib.hid hC
 clear hR hC
 obtain ⟨M,hM⟩ : ∃M,genM R C (digF C ls) = M:=⟨_,rfl⟩
 have HMade : HidS (∀w,I8V w (.slice ao n cap) ls→Calls Tryz.prog 13 #[.agg #[.int .u8 r,.int .u8 c,.slice ao n cap]] w fun e w'=>∃v,e = .returned v∧MatV w' v R C M∧Below w.heap.size w w'):=⟨fun w h=>by
  rw [← hM]
  exact madeM _ r c ls w h hr hc R C HR.out HC.out⟩
 have HF : HidS (Fits R C M):=⟨by rw [← hM]; exact genM_fits _ _ _⟩
 have HA : HidS (leM 1048576 R C (ent M)):=⟨by rw [← hM]; exact (ent_leM (digF_leM R C C ls)).mono (by omega)⟩
 clear hM
 go_enter Tryz.func4,Tryz.ntmps4
 go_upto_region 1 with (fail)
 refine wp_world ?_
 intro W0 hW0
 obtain ⟨hB0,bx,hs0⟩:=world1 hW0
 clear hW0
 go_wp2_with fail
 refine (sanity_any W0).mono ?_
 rintro e w1 ⟨rfl,hb1⟩
 have hB:=nx hB0 hb1
 have bx:=bx.below hb1
 obtain ⟨c1,c2,c3,c4,c5,c6⟩:=bx.three
 go_wp2_with fail
 refine (HMade.out w1 (h.below hB)).mono ?_
 rintro e w2 ⟨va,rfl,hm,hb2⟩
 obtain ⟨A,rfl,hrv⟩:=id hm
 obtain ⟨ro,rn,rc,rfl,-⟩:=id hrv
 have hB:=nx hB hb2
 have bx:=bx.below hb2
 clear c1 c2 c3 c4 c5 c6 hrv
 go_upto_region 3 with (fail)
 refine wp_world ?_
 intro W3 hW3
 obtain ⟨hB3,T4,hs3⟩:=world1 hW3
 have HM:=HidS.mk (hm.below hB3)
 have hB:=nx hB hB3
 have bx:=bx.below hB3
 clear hW3 hm
 obtain ⟨c1,c2,c3,c4,c5,c6⟩:=T4.three
 go_wp2_with fail
 refine (form_all _ M R C W3 HM.out HF.out hR4 hC4 HA.out).mono ?_
 rintro e w4 ⟨fv,y,rr,rfl,hrel,hinv,hok,hf,hb4⟩
 have HCK:=HidS.mk (Chk.of hR4 hC4 HF.out HA.out hrel hinv hok)
 generalize genM R C y.s = S at hf HCK
 generalize genM R R y.u = U at hf HCK
 generalize genM R R (trF y.v) = V at hf HCK
 generalize genM C C (trF y.w) = WW at hf HCK
 generalize genM C C y.x = X at hf HCK
 clear hrel hinv hok
 have hB:=nx hB hb4
 have bx:=bx.below hb4
 have T4:=T4.below hb4
 have HM:=HidS.mk (HM.out.below hb4)
 obtain ⟨sv,uv,xv,yv,zv,rfl,hs0,hu0,hx0,hy0,hz0⟩:=id hf.ex
 obtain ⟨s0,s1,s2,rfl,-⟩:=id hs0
 obtain ⟨u0,u1,u2,rfl,-⟩:=id hu0
 obtain ⟨x0,x1,x2,rfl,-⟩:=id hx0
 obtain ⟨y0,y1,y2,rfl,-⟩:=id hy0
 obtain ⟨z0,z1,z2,rfl,-⟩:=id hz0
 have HFV:=HidS.mk hf
 clear hf hs0 hu0 hx0 hy0 hz0 c1 c2 c3 c4 c5 c6
 go_upto_region 4 with (fail)
 refine wp_world ?_
 intro W5 hW5
 obtain ⟨hB5,bf,hs5⟩:=world1 hW5
 have hB:=nx hB hB5
 have bx:=bx.below hB5
 have T4:=T4.below hB5
 have HM:=HidS.mk (HM.out.below hB5)
 have HFV:=HidS.mk (HFV.out.below hB5)
 clear hW5
 obtain ⟨c1,c2,c3,c4,c5,c6⟩:=T4.three
 obtain ⟨r1,r2,r3,r4,r5,r6⟩:=bx.three
 obtain ⟨⟨q0,q1,q2,q3,q4,q5,q6,q7,q8,q9,q10,q11,q12,q13,q14⟩,-⟩:=bf.all15
 refine wp_region_each rfl (RV W5 _ [⟨0,11,fun _ v=>v = .agg #[.int .i64 R,.int .i64 C,.slice ro rn rc]⟩,⟨1,12,fun _ v=>v = .agg #[.int .i64 R,.int .i64 C,.slice s0 s1 s2,.int .i64 R,.int .i64 R,.slice u0 u1 u2,.int .i64 R,.int .i64 R,.slice x0 x1 x2,.int .i64 C,.int .i64 C,.slice y0 y1 y2,.int .i64 C,.int .i64 C,.slice z0 z1 z2]⟩,⟨2,13,fun _ v=>v = .bool true⟩,⟨3,14,fun _ v=>v = .bool true⟩,⟨4,15,fun _ v=>v = .agg #[.int .i64 R,.int .i64 C,.slice ro rn rc]⟩,⟨5,16,fun _ v=>v = .agg #[.int .i64 R,.int .i64 C,.slice s0 s1 s2,.int .i64 R,.int .i64 R,.slice u0 u1 u2,.int .i64 R,.int .i64 R,.slice x0 x1 x2,.int .i64 C,.int .i64 C,.slice y0 y1 y2,.int .i64 C,.int .i64 C,.slice z0 z1 z2]⟩,⟨6,17,fun _ v=>v = .bool true⟩,⟨7,18,fun _ v=>v = .bool true⟩,⟨8,19,fun _ v=>v = .bool true⟩,⟨9,20,fun _ v=>v = .agg #[.int .i64 R,.int .i64 C,.slice ro rn rc]⟩,⟨10,21,fun _ v=>v = .agg #[.int .u8 r,.int .u8 c,.slice ao n cap]⟩,⟨11,22,fun w v=>MatV w v (R) (C) (M)⟩,⟨12,23,fun _ v=>v = .bool true⟩,⟨13,24,fun _ v=>v = .bool true⟩,⟨14,25,fun _ v=>v = .bool true⟩,⟨15,26,fun _ v=>v = .bool true⟩,⟨16,27,fun _ v=>v = .bool true⟩,⟨17,2,fun _ v=>v = .bool true⟩]) (by kernel_rfl) RV.start ?fin1 ?steps1
 case steps1=>
  refine ⟨?_,?_,?_,?_,?_,?_,?_,?_,?_,?_,?_,?_,?_,?_,?_,?_,?_,?_,trivial⟩ <;> (intro L T wS hL hd hcl hI K hK; try refine step_wanted rfl ?_)
  ·have zt : T[4]? = some (.pointer (some ⟨w2.heap.size,0,none⟩)):=hI.keep 4 (by simp)
   have cc0:=hI.cell c1
   have cc1:=hI.cell c2
   have cc2:=hI.cell c3
   go_simp
   exact hK _ _ (hI.value _ mm0 rfl rfl)
  ·have zt : T[5]? = some (.pointer (some ⟨w4.heap.size,0,none⟩)):=hI.keep 5 (by simp)
   have cc0:=hI.cell q0
   have cc1:=hI.cell q1
   have cc2:=hI.cell q2
   have cc3:=hI.cell q3
   have cc4:=hI.cell q4
   have cc5:=hI.cell q5
   have cc6:=hI.cell q6
   have cc7:=hI.cell q7
   have cc8:=hI.cell q8
   have cc9:=hI.cell q9
   have cc10:=hI.cell q10
   have cc11:=hI.cell q11
   have cc12:=hI.cell q12
   have cc13:=hI.cell q13
   have cc14:=hI.cell q14
   go_simp
   exact hK _ _ (hI.value _ mm1 rfl rfl)
  ·obtain ⟨_,zt0,rfl⟩:=hI.val _ mm0 (hd 0)
   obtain ⟨_,zt1,rfl⟩:=hI.val _ mm1 (hd 1)
   go_simp
   refine (r13checkB _ _ R C M S U V WW X _ (HM.out.below hI.bel) (HFV.out.below hI.bel) HF.out (by omega) (by omega) HCK.out).mono ?_
   rintro e wa ⟨v,rfl,hv,hba⟩
   exact hK _ _ ((hI.world hba).value _ mm2 rfl hv)
  ·obtain ⟨_,zt2,rfl⟩:=hI.val _ mm2 (hd 2)
   go_simp
   exact hK _ _ (hI.value _ mm3 rfl rfl)
  ·obtain ⟨_,zg,rfl⟩:=hI.val _ mm3 (hd 3)
   refine step_wanted (by simp [Region.wanted,yielded,zg]) ?_
   have zt : T[4]? = some (.pointer (some ⟨w2.heap.size,0,none⟩)):=hI.keep 4 (by simp)
   have cc0:=hI.cell c1
   have cc1:=hI.cell c2
   have cc2:=hI.cell c3
   go_simp
   exact hK _ _ (hI.value _ mm4 rfl rfl)
  ·obtain ⟨_,zg,rfl⟩:=hI.val _ mm3 (hd 3)
   refine step_wanted (by simp [Region.wanted,yielded,zg]) ?_
   have zt : T[5]? = some (.pointer (some ⟨w4.heap.size,0,none⟩)):=hI.keep 5 (by simp)
   have cc0:=hI.cell q0
   have cc1:=hI.cell q1
   have cc2:=hI.cell q2
   have cc3:=hI.cell q3
   have cc4:=hI.cell q4
   have cc5:=hI.cell q5
   have cc6:=hI.cell q6
   have cc7:=hI.cell q7
   have cc8:=hI.cell q8
   have cc9:=hI.cell q9
   have cc10:=hI.cell q10
   have cc11:=hI.cell q11
   have cc12:=hI.cell q12
   have cc13:=hI.cell q13
   have cc14:=hI.cell q14
   go_simp
   exact hK _ _ (hI.value _ mm5 rfl rfl)
  ·obtain ⟨_,zg,rfl⟩:=hI.val _ mm3 (hd 3)
   refine step_wanted (by simp [Region.wanted,yielded,zg]) ?_
   obtain ⟨_,zt4,rfl⟩:=hI.val _ mm4 (hd 4)
   obtain ⟨_,zt5,rfl⟩:=hI.val _ mm5 (hd 5)
   go_simp
   refine (scheckB _ _ R C M S U V WW X _ (HM.out.below hI.bel) (HFV.out.below hI.bel) HF.out (by omega) (by omega) HCK.out).mono ?_
   rintro e wa ⟨v,rfl,hv,hba⟩
   exact hK _ _ ((hI.world hba).value _ mm6 rfl hv)
  ·obtain ⟨_,zt3,rfl⟩:=hI.val _ mm3 (hd 3)
   obtain ⟨_,zt6,rfl⟩:=hI.val _ mm6 (hd 6)
   go_simp
   exact hK _ _ (hI.value _ mm7 rfl rfl)
  ·obtain ⟨_,zt7,rfl⟩:=hI.val _ mm7 (hd 7)
   go_simp
   exact hK _ _ (hI.value _ mm8 rfl rfl)
  ·obtain ⟨_,zg,rfl⟩:=hI.val _ mm8 (hd 8)
   refine step_wanted (by simp [Region.wanted,yielded,zg]) ?_
   have zt : T[4]? = some (.pointer (some ⟨w2.heap.size,0,none⟩)):=hI.keep 4 (by simp)
   have cc0:=hI.cell c1
   have cc1:=hI.cell c2
   have cc2:=hI.cell c3
   go_simp
   exact hK _ _ (hI.value _ mm9 rfl rfl)
  ·obtain ⟨_,zg,rfl⟩:=hI.val _ mm8 (hd 8)
   refine step_wanted (by simp [Region.wanted,yielded,zg]) ?_
   have zt : T[1]? = some (.pointer (some ⟨w.heap.size,0,none⟩)):=hI.keep 1 (by simp)
   have cc0:=hI.cell r1
   have cc1:=hI.cell r2
   have cc2:=hI.cell r3
   go_simp
   exact hK _ _ (hI.value _ mm10 rfl rfl)
  ·obtain ⟨_,zg,rfl⟩:=hI.val _ mm8 (hd 8)
   refine step_wanted (by simp [Region.wanted,yielded,zg]) ?_
   obtain ⟨_,zt10,rfl⟩:=hI.val _ mm10 (hd 10)
   go_simp
   refine (HMade.out _ (h.below (nx hB hI.bel))).mono ?_
   rintro e wa ⟨v,rfl,hv,hba⟩
   exact hK _ _ ((hI.world hba).value _ mm11 rfl hv)
  ·obtain ⟨_,zg,rfl⟩:=hI.val _ mm8 (hd 8)
   refine step_wanted (by simp [Region.wanted,yielded,zg]) ?_
   obtain ⟨_,zt9,rfl⟩:=hI.val _ mm9 (hd 9)
   obtain ⟨v11,zt11,h11⟩:=hI.val _ mm11 (hd 11)
   go_simp
   refine (sameT _ _ R C M _ (HM.out.below hI.bel) h11).mono ?_
   rintro e wa ⟨v,rfl,hv,hba⟩
   exact hK _ _ ((hI.world hba).value _ mm12 rfl hv)
  ·obtain ⟨_,zt8,rfl⟩:=hI.val _ mm8 (hd 8)
   obtain ⟨_,zt12,rfl⟩:=hI.val _ mm12 (hd 12)
   go_simp
   exact hK _ _ (hI.value _ mm13 rfl rfl)
  ·obtain ⟨_,zt13,rfl⟩:=hI.val _ mm13 (hd 13)
   go_simp
   exact hK _ _ (hI.value _ mm14 rfl rfl)
  ·obtain ⟨_,zg,rfl⟩:=hI.val _ mm14 (hd 14)
   refine step_wanted (by simp [Region.wanted,yielded,zg]) ?_
   have zt : T[3]? = some (.bool true):=hI.keep 3 (by simp)
   go_simp
   exact hK _ _ (hI.value _ mm15 rfl rfl)
  ·obtain ⟨_,zt14,rfl⟩:=hI.val _ mm14 (hd 14)
   obtain ⟨_,zt15,rfl⟩:=hI.val _ mm15 (hd 15)
   go_simp
   exact hK _ _ (hI.value _ mm16 rfl rfl)
  ·obtain ⟨_,zt16,rfl⟩:=hI.val _ mm16 (hd 16)
   go_simp
   exact hK _ _ (hI.value _ mm17 rfl rfl)
 intro T w9 hI
 obtain ⟨va0,q0,rfl⟩:=hI.val _ mm0 rfl
 obtain ⟨va1,q1,rfl⟩:=hI.val _ mm1 rfl
 obtain ⟨va2,q2,rfl⟩:=hI.val _ mm2 rfl
 obtain ⟨va3,q3,rfl⟩:=hI.val _ mm3 rfl
 obtain ⟨va4,q4,rfl⟩:=hI.val _ mm4 rfl
 obtain ⟨va5,q5,rfl⟩:=hI.val _ mm5 rfl
 obtain ⟨va6,q6,rfl⟩:=hI.val _ mm6 rfl
 obtain ⟨va7,q7,rfl⟩:=hI.val _ mm7 rfl
 obtain ⟨va8,q8,rfl⟩:=hI.val _ mm8 rfl
 obtain ⟨va9,q9,rfl⟩:=hI.val _ mm9 rfl
 obtain ⟨va10,q10,rfl⟩:=hI.val _ mm10 rfl
 obtain ⟨va11,q11,ha11⟩:=hI.val _ mm11 rfl
 replace ha11 : MatV w9 va11 (R) (C) (M):=ha11
 obtain ⟨va12,q12,rfl⟩:=hI.val _ mm12 rfl
 obtain ⟨va13,q13,rfl⟩:=hI.val _ mm13 rfl
 obtain ⟨va14,q14,rfl⟩:=hI.val _ mm14 rfl
 obtain ⟨va15,q15,rfl⟩:=hI.val _ mm15 rfl
 obtain ⟨va16,q16,rfl⟩:=hI.val _ mm16 rfl
 obtain ⟨va17,q17,rfl⟩:=hI.val _ mm17 rfl
 have hT:=tmps_set [(11,.agg #[.int .i64 R,.int .i64 C,.slice ro rn rc]),(12,.agg #[.int .i64 R,.int .i64 C,.slice s0 s1 s2,.int .i64 R,.int .i64 R,.slice u0 u1 u2,.int .i64 R,.int .i64 R,.slice x0 x1 x2,.int .i64 C,.int .i64 C,.slice y0 y1 y2,.int .i64 C,.int .i64 C,.slice z0 z1 z2]),(13,.bool true),(14,.bool true),(15,.agg #[.int .i64 R,.int .i64 C,.slice ro rn rc]),(16,.agg #[.int .i64 R,.int .i64 C,.slice s0 s1 s2,.int .i64 R,.int .i64 R,.slice u0 u1 u2,.int .i64 R,.int .i64 R,.slice x0 x1 x2,.int .i64 C,.int .i64 C,.slice y0 y1 y2,.int .i64 C,.int .i64 C,.slice z0 z1 z2]),(17,.bool true),(18,.bool true),(19,.bool true),(20,.agg #[.int .i64 R,.int .i64 C,.slice ro rn rc]),(21,.agg #[.int .u8 r,.int .u8 c,.slice ao n cap]),(22,va11),(23,.bool true),(24,.bool true),(25,.bool true),(26,.bool true),(27,.bool true),(2,.bool true)]
  (fun j hj=>hI.keep j (by simp only [List.forall_mem_cons] at hj ⊢; simp [hj]))
  (by simp only [List.forall_mem_cons]; simp [q0,q1,q2,q3,q4,q5,q6,q7,q8,q9,q10,q11,q12,q13,q14,q15,q16,q17]) hI.size
 have hbw9:=hI.bel
 clear hI
 simp only [List.foldl_cons,List.foldl_nil,List.setIfInBounds_toArray,List.set_cons_zero,List.set_cons_succ,ptr] at hT
 subst hT
 clear q0 q1 q2 q3 q4 q5 q6 q7 q8 q9 q10 q11 q12 q13 q14 q15 q16 q17
 have hBF:=nx hB hbw9
 go_wp2
 go_ret
 exact ⟨rfl,hBF⟩
end Go.Proofs.YtnocgagoaldfnaaGreat

namespace Go.Proofs.YtnocgagoaldfnaaGreat
open Go.ChangeShapes Go.WideShapes Go.ChangeAt Go.RowKit
set_option maxRecDepth 100000 in
theorem smithTransforms_lifted (os : Os) (started : os.Started) (H : Type) (enc : TypeId × Value→H) :
  ReturnsInHanded {} Tryz.checked os 4 .any (Rows.smithTransformsSpec.pre6 enc Tryz.prog Tryz.f4 Rows.smithTransformsRow.domain false) (Rows.smithTransformsSpec.post enc Tryz.prog Tryz.f4 false true false false):=by
 refine returnsInHanded_of_change (C:=Tryz.checked) Tryz.own started (by kernel_rfl) Tryz.func4
  (ChangeSpec.witness6 (enc:=enc) (C:=Tryz.checked) false ⟨#[],#[.agg #[.int .u8 0,.int .u8 0,.slice none 0 0]],[]⟩ 8 (by kernel_rfl) (by kernel_rfl) (by kernel_rfl) (by kernel_rfl)) ?_
 intro W base args ds gs before hval0 hW hcnd _
 have hval : ∀(j : Nat) t v,Tryz.f4.params[j]? = some t→args[j]? = some v→Value.okWide Tryz.prog W .any base t v:=hval0
 have hW':=hW
 obtain ⟨p,q,hA0,hV,rfl,hfz,hnd⟩:=hW
 have hA : DataW.TrodAll enc Tryz.prog W 0 (fun _=>true) true Tryz.f4.params.toList args.toList ds p:=hA0
 rw [Tryz.params4] at hA hval
 obtain ⟨v0,d0,rfl,rfl,h0⟩:=trodAll_one hA
 obtain ⟨rfl,rfl⟩:=trodVars_none hV
 clear hA0 hval0
 simp only [List.append_nil] at hW'
 have hlt0 : ∀x ∈ p,x.block < W.heap.size:=fun x hx=>hW'.lt x (by simp [hx])
 obtain ⟨a,b,sv,ls,rfl,ha,hb,hI⟩:=open_raw (hval 0 24 v0 rfl rfl) h0 hlt0
 refine (smithTransforms_any sv a b ls W hI ha hb).mono fun e W' ⟨he,hB⟩=>?_
 subst he
 refine ⟨_,rfl,_,_,_,[],p,[],hW',?_,?_,rfl,hB.frame _,fun h=>by cases h⟩
 ·exact trodAll_mk1 (shut_bool Tryz.underlying4 true)
 ·exact trodAll_mk1 (Below.trod Tryz.laidOut (by kernel_rfl) (of_decide_eq_true (by kernel_rfl)) h0 hB hlt0)
theorem smithTransforms_holds : Rows.SmithTransformsSaid:=
 OpenClaim.holds_of_wide 4 Tryz.f4 rfl rfl rfl rfl rfl rfl rfl ⟨rfl,rfl,rfl,rfl,rfl⟩ rfl rfl rfl rfl rfl (by kernel_rfl) Tryz.func4 (by kernel_rfl)
  (of_decide_eq_true (by kernel_rfl)) (by unfold Func.isWrapper; first | (rw [if_pos (by decide +kernel)]; kernel_rfl) | (rw [if_neg (by decide +kernel)]; exact ⟨rfl,rfl⟩))
  (fun os started H enc _=>smithTransforms_lifted os started H enc)
end Go.Proofs.YtnocgagoaldfnaaGreat
