/- torsionlaw12.HermiteReduces: whatever the input, it returns true, and the input reads as it did. No conditions. -/
import Derived.Test.YtgnmdddaiefooaaGreatRows
import Derived.Test.YtgnmdddaiefooaaGreatE44
import Derived.Test.YtgnmdddaiefooaaGreatY01
import Derived.Test.YtgnmdddaiefooaaGreatY02
set_option linter.unusedVariables false
set_option linter.unusedSimpArgs false
set_option linter.unusedSectionVars false
set_option maxHeartbeats 16000000
set_option maxRecDepth 100000
namespace Go.Proofs.YtgnmdddaiefooaaGreat
open Go.RowKit
structure RedG (R C : Nat) (M G : List (List Int)) : Prop where
 fit : Fits R C G
 ok : ∀x : Nat->Int,(∀b,b < C->(x b).natAbs<=1000000)->okRd BD R C (ent G) x
 comb : ∀x : Nat->Int,∀y : Nat->Int,∀b,b < C->rest R C (ent G) (fun b=>y b + mulf [genV R x] M R 0 b) b = rest R C (ent G) y b
 zero : ∀x : Nat->Int,∀b,b < C->rest R C (ent G) (mulf [genV R x] M R 0) b = 0
theorem HLat.redG {R C r : Nat} {c : Nat->Nat} {M : List (List Int)} {H : Nat->Nat->Int} (h : HLat R C r c (ent M) H) (hR : R<=4) (hle : leM 644972544 R C H) : RedG R C M (genM R C H):=by
 have hG : Hnf C R r c (ent (genM R C H)):=h.hnf.congr fun a ha b hb=>(ent_genM ha hb).symm
 have hm : ∀x : Nat->Int,∃z : Nat->Int,∀b,b < C->mulf [genV R x] M R 0 b = sumN R fun t=>z t * ent (genM R C H) t b:=fun x=>by
  obtain ⟨X,hX⟩:=h.sp;refine ⟨fun s=>sumN R fun t=>x t * X t s,fun b hb=>?_⟩;have e1 : mulf [genV R x] M R 0 b = sumN R fun t=>x t * ent M t b:=by
   unfold mulf;rw [sumTo_sumN];exact sumN_congr fun t ht=>by rw [ent_of (i:=0) (j:=t) rfl (genV_get ht)]
  rw [e1];have e2 : (sumN R fun t=>x t * ent M t b) = sumN R fun t=>sumN R fun s=>x t * (X t s * H s b):=sumN_congr fun t ht=>by rw [hX t ht b hb,sumN_mul]
  rw [e2,sumN_swap];refine sumN_congr fun s hs=>?_
  rw [ent_genM hs hb,<-sumN_mulr];exact sumN_congr fun t _=>by rw [Int.mul_assoc]
 refine ⟨genM_fits _ _ _,fun x hx=>okRd_small hG hR (ent_leM hle) hx,fun x y b hb=>?_,fun x b hb=>?_⟩
 ·obtain ⟨z,hz⟩:=hm x
  exact rest_unique hG (z:=z) (fun b hb=>by rw [<-hz b hb]; omega) b hb
 ·obtain ⟨z,hz⟩:=hm x
  exact rest_zero hG hz b hb
theorem mulf_row {R C : Nat} {M : List (List Int)} {x : Nat->Int} (hA : leM 9 R C (ent M)) (hx : ∀b,(x b).natAbs<=9) {b : Nat} (hb : b < C) {m : Nat} (hm : m<=R) : (mulf [genV R x] M m 0 b).natAbs<=m * 81:=by
 unfold mulf;rw [sumTo_sumN];refine sumN_natAbs fun t ht=>?_
 rw [ent_of (i:=0) (j:=t) rfl (genV_get oM),Int.natAbs_mul];exact Nat.mul_le_mul (hx t) (hA t oM b hb)
theorem mulSm_row {R C : Nat} {M : List (List Int)} {x : Nat->Int} (hR : R<=4) (hA : leM 9 R C (ent M)) (hx : ∀b,(x b).natAbs<=9) : MulSm [genV R x] M 1 R C:=by
 intro i hi j hj k hk;obtain rfl : i = 0:=by omega
 have e : ent [genV R x] 0 k = x k:=ent_of rfl (genV_get hk);rw [e];have h1:=hx k;have h2:=hA k hk j hj;have h3 : (x k * ent M k j).natAbs<=81:=by rw [Int.natAbs_mul]; exact Nat.mul_le_mul h1 h2
 have h4:=mulf_row hA hx hj (m:=k) oM;exact ⟨BD_sm (pow_BD (Nat.le_trans h1 dE)),BD_sm (pow_BD (Nat.le_trans h2 dE)),BD_sm (pow_BD (Nat.le_trans h3 dE)),BD_sm (pow_BD (Nat.le_trans (show _<=1000 by omega) dE))⟩
def till7 (i : Nat) : Nat:=if i = 1 then 3 else if i = 3 then 6 else if i = 4 then 5 else if i = 5 then 6 else if i = 6 then 7 else 999
theorem hermiteReduces_any (v xv kv : Value) (r c : Nat) (ls l1 l2 : List Int) (w : World) (h : I8V w v ls) (h1 : I8V w xv l1) (h2 : I8V w kv l2) (hr : r<=255) (hc : c<=255) :
  Calls Tryz.prog 9 #[.agg #[.int .u8 r,.int .u8 c,v],xv,kv] w fun e w'=>e = .returned (.bool true)/\Below w.heap.size w w':=by
 obtain ⟨ao,n,cap,rfl,-,-,-,-,-⟩:=id h;obtain ⟨xo,xn,xcap,rfl,-,-,-,-,-⟩:=id h1;obtain ⟨ko,kn,kcap,rfl,-,-,-,-,-⟩:=id h2;obtain ⟨R,hR⟩ : ∃R : Nat,R = r % 5:=⟨_,rfl⟩;obtain ⟨C,hC⟩ : ∃C : Nat,C = c % 5:=⟨_,rfl⟩;have hR4 : R<=4:=by omega
 have hC4 : C<=4:=by omega
 have HR:=xgw hR;have HC:=xgw hC;clear hR hC;obtain ⟨M,hM⟩ : ∃M,genM R C (digF C ls) = M:=⟨_,rfl⟩;have HMade : HidS (∀w,I8V w (.slice ao n cap) ls->Calls Tryz.prog 14 #[.agg #[.int .u8 r,.int .u8 c,.slice ao n cap]] w fun e w'=>∃v,e = .returned v/\MatV w' v R C M/\Below w.heap.size w w'):=⟨fun w h=>by
  rw [<-hM];exact madeM _ r c ls w h hr hc R C HR.out HC.out⟩
 have HF : HidS (Fits R C M):=⟨by rw [<-hM]; exact genM_fits _ _ _⟩;have HA9 : HidS (leM 9 R C (ent M)):=⟨by rw [<-hM]; exact ent_leM (digF_leM R C C ls)⟩;obtain ⟨x1,hx1⟩ : ∃x1,digF C l1 0 = x1:=⟨_,rfl⟩;have HX9 : HidS (∀b,(x1 b).natAbs<=9):=⟨fun b=>by rw [<-hx1]; exact digF_le C l1 0 b⟩;have HV1 : HidS (∀w,I8V w (.slice xo xn xcap) l1->Calls Tryz.prog 24 #[.slice xo xn xcap,.int .i64 C] w fun e w'=>∃u,e = .returned u/\VecV w' u (genV C x1)/\Below w.heap.size w w'):=⟨fun w h=>by
  rw [<-hx1];exact vector_any _ C l1 w h oM⟩
 obtain ⟨x2,hx2⟩ : ∃x2,digF R l2 0 = x2:=⟨_,rfl⟩;have HK9 : HidS (∀b,(x2 b).natAbs<=9):=⟨fun b=>by rw [<-hx2]; exact digF_le R l2 0 b⟩;have HV2 : HidS (∀w,I8V w (.slice ko kn kcap) l2->Calls Tryz.prog 24 #[.slice ko kn kcap,.int .i64 R] w fun e w'=>∃u,e = .returned u/\VecV w' u (genV R x2)/\Below w.heap.size w w'):=⟨fun w h=>by
  rw [<-hx2];exact vector_any _ R l2 w h oM⟩
 clear hM hx1 hx2;go_enter Tryz.func9,Tryz.ntmps9;go_upto_region 1 with (fail)
 refine wp_world ?_;intro W0 hW0;obtain ⟨hB0,bx,hs0⟩:=world1 hW0;clear hW0;go_wp2_with fail
 refine (sanity12_any W0).mono ?_;rintro e w1 ⟨rfl,hb1⟩;have hB:=nx hB0 hb1;have bx:=bx.below hb1;obtain ⟨c1,c2,c3,c4,c5,c6⟩:=bx.three;go_wp2_with fail
 refine (HMade.out w1 (h.below hB)).mono ?_;rintro e w2 ⟨va,rfl,hm,hb2⟩;obtain ⟨ro,rn,rc,rfl⟩:=hm.agg;have hB:=nx hB hb2;clear c1 c2 c3 c4 c5 c6 bx;go_upto_region 3 with (fail)
 refine wp_world ?_;intro W3 hW3;obtain ⟨hB3,T8,hs3⟩:=world1 hW3;have HM:=xgv (hm.below hB3);have hB:=nx hB hB3;clear hW3 hm;obtain ⟨c1,c2,c3,c4,c5,c6⟩:=T8.three;go_wp2_with fail
 refine (r12form_small (M0:=9) (e:=5) dE dE dE _ M R C W3 HM.out HF.out hR4 hC4 HA9.out).mono ?_;rintro e w4 ⟨fv,rk,kc,H,U,V,rfl,hf,hle,-,-,hfv,hb4⟩;obtain ⟨f1,f2,f3,f4,f5,f6,f7,f8,f9,rfl,hfh⟩:=hfv.agg;have HG : HidS (RedG R C M (genM R C H)):=⟨hf.lat.redG hR4 (by rw [<-nine_two]; exact hle)⟩;obtain ⟨G,hG⟩ : ∃G,genM R C H = G:=⟨_,rfl⟩;rw [hG] at HG hfh;have HFH:=xgv hfh;have HM:=xgv (HM.out.below hb4);have T8:=T8.below hb4;have hB:=nx hB hb4;have hfl:=field_herm0;clear c1 c2 c3 c4 c5 c6 hf hle hfh hfv hG;go_upto_region 4 with (fail)
 refine wp_world ?_;intro W5 hW5;obtain ⟨hB5,T9,hs5⟩:=world1 hW5;have HM:=xgv (HM.out.below hB5);have HFH:=xgv (HFH.out.below hB5);have T8:=T8.below hB5;have hB:=nx hB hB5;clear hW5;obtain ⟨c1,c2,c3,c4,c5,c6⟩:=T8.three;go_wp2_with fail
 refine (HV1.out W5 (h1.below hB)).mono ?_;rintro e w6 ⟨u1,rfl,hu1,hb6⟩;obtain ⟨uo,un,uc,rfl,u2,-,-,-⟩:=id hu1;rw [genV_length] at u2;subst u2;have HU1:=xgv hu1;have HFH:=xgv (HFH.out.below hb6);have HM:=xgv (HM.out.below hb6);have T8:=T8.below hb6;have T9:=T9.below hb6;have hB:=nx hB hb6;clear c1 c2 c3 c4 c5 c6 hu1;obtain ⟨c1,c2,c3,c4,c5,c6⟩:=T9.three;have HX1 : HidS (∀b,b < C->(x1 b).natAbs<=1000000):=⟨fun b _=>by have:=HX9.out b; omega⟩;go_wp2_with fail
 refine (hreduce2_any BD_bsd _ _ R C G x1 w6 HFH.out HG.out.fit HU1.out oM oM (HG.out.ok x1 HX1.out) (by have:=pow_BD (a:=0) dE; exact this)).mono ?_;rintro e w7 ⟨q1,s1,rfl,hq1,hs1,hb7⟩;have HU1:=xgv (HU1.out.below hb7);have HFH:=xgv (HFH.out.below hb7);have HM:=xgv (HM.out.below hb7);have T8:=T8.below hb7;have T9:=T9.below hb7;have hB:=nx hB hb7;clear c1 c2 c3 c4 c5 c6;obtain ⟨c1,c2,c3,c4,c5,c6⟩:=T9.three;go_wp2_with fail
 refine (r12reduce_any BD_bsd _ _ R C G x1 w7 HFH.out HG.out.fit HU1.out oM oM (HG.out.ok x1 HX1.out) (by have:=pow_BD (a:=0) dE; exact this)).mono ?_;rintro e w8 ⟨q2,s2,rfl,hq2,hs2,hb8⟩;have HU1:=xgv (HU1.out.below hb8);have HFH:=xgv (HFH.out.below hb8);have HM:=xgv (HM.out.below hb8);have T8:=T8.below hb8;have T9:=T9.below hb8;have hB:=nx hB hb8;have hq1:=hq1.below hb8;have hs1:=hs1.below hb8;obtain ⟨Q1,hQ1⟩ : ∃Q1,genV R (redQ C (ent G) x1) = Q1:=⟨_,rfl⟩;obtain ⟨S1,hS1⟩ : ∃S1,genV C (redR C (ent G) x1 R) = S1:=⟨_,rfl⟩;rw [hQ1] at hq1 hq2;rw [hS1] at hs1 hs2;have HS1:=xgv hS1;have HQ1:=xgv hq1;have HQ2:=xgv hq2;have HR1:=xgv hs1;have HR2:=xgv hs2;clear c1 c2 c3 c4 c5 c6 hq1 hs1 hq2 hs2 hQ1 hS1;obtain ⟨c1,c2,c3,c4,c5,c6⟩:=T9.three;have lt9:=T9.lt;go_upto_region 7 with (fail)
 have lbl : ∀t ∈ [E 0 54 (.agg #[.int .i64 R,.int .i64 C,.slice f1 f2 f3]),⟨1,55,fun w v=>VecO w w8.heap.size v []⟩,E 2 56 (.slice uo C uc),⟨3,57,fun w v=>VecO w w8.heap.size v (genV C x1)⟩,⟨4,58,fun w v=>IntV w v 1⟩,⟨5,59,fun w v=>ZsV w v [1]⟩,⟨6,60,fun w v=>VecO w w8.heap.size v (genV C x1 ++ [1])⟩,E 7 61 (.tuple #[.slice none 0 0,.slice none 0 0,.int .i64 50]),E 8 53 (.tuple #[.slice none 0 0,.slice none 0 0,.int .i64 50]),E 9 62 (.slice none 0 0),E 10 63 (.slice none 0 0),VN 11 64 50,E 12 17 (.slice none 0 0),E 13 18 (.slice none 0 0),VN 14 19 50],LastsB t.P:=by
  repeat' (first | exact lastsB_int _ | exact lastsB_eq _ | exact fun _ _ _ e h=>VecO.below h e | exact fun _ _ _ e h=>ZsV.below h e | refine xgm.2 ⟨?_,?_⟩ | exact xgn _)
 refine wp_region_each rfl (RE till7 w8 _ [E 0 54 (.agg #[.int .i64 R,.int .i64 C,.slice f1 f2 f3]),⟨1,55,fun w v=>VecO w w8.heap.size v []⟩,E 2 56 (.slice uo C uc),⟨3,57,fun w v=>VecO w w8.heap.size v (genV C x1)⟩,⟨4,58,fun w v=>IntV w v 1⟩,⟨5,59,fun w v=>ZsV w v [1]⟩,⟨6,60,fun w v=>VecO w w8.heap.size v (genV C x1 ++ [1])⟩,E 7 61 (.tuple #[.slice none 0 0,.slice none 0 0,.int .i64 50]),E 8 53 (.tuple #[.slice none 0 0,.slice none 0 0,.int .i64 50]),E 9 62 (.slice none 0 0),E 10 63 (.slice none 0 0),VN 11 64 50,E 12 17 (.slice none 0 0),E 13 18 (.slice none 0 0),VN 14 19 50]) kR (RE.start kR dE) ?finA ?stepsA
 case stepsA=>
  refine ⟨?_,?_,?_,?_,?_,?_,?_,?_,?_,?_,?_,?_,?_,?_,?_,trivial⟩ <;> (intro L T wS hL hd hcl hI K hK; try refine step_wanted rfl ?_)
  ·have zt : T[9]? = some (.pointer (some ⟨w4.heap.size,0,none⟩)):=hI.keep 9 sI
   have cc0:=(hI.bel.cell (p:=⟨w4.heap.size,0,none⟩) lt9).trans c1;have cc1:=(hI.bel.cell (p:=⟨w4.heap.size,1,none⟩) lt9).trans c2;have cc2:=(hI.bel.cell (p:=⟨w4.heap.size,2,none⟩) lt9).trans c3;go_simp;exact hK _ _ (hI.step hL ⟨0,54,_⟩ mm0 rfl (Below.refl _ _) rfl fun _ _ _ _ _ _ _ h=>h)
  ·go_simp
   exact hK _ _ (hI.step hL ⟨1,55,_⟩ mm1 rfl ((Below.refl _ _).alloc hI.bel.size _) (vecO_made _ hI.bel.size) fun t ht _ _ _ _ v hp=>lbl t ht _ _ _ ((Below.refl _ _).alloc (xgf _) _) hp)
  ·have zt : T[10]? = some (.slice uo C uc):=hI.keep 10 sI
   go_simp;exact hK _ _ (hI.step hL ⟨2,56,_⟩ mm2 rfl (Below.refl _ _) rfl fun _ _ _ _ _ _ _ h=>h)
  ·obtain ⟨v1,zt1,hv1⟩:=hI.val _ mm1 (hd 1) (by show L[3]? ≠ some true; rw [hL]; simp)
   have zt2:=hI.e mm2 (hd 2) rfl;have c4' : L[4]? = some true->False:=fun hx=>by have:=hcl 4 _ rfl hx 3 kR; rw [hL] at this; cases this
   have c5' : L[5]? = some true->False:=fun hx=>c4' (hcl 5 _ rfl hx 4 kR)
   have c6' : L[6]? = some true->False:=fun hx=>c5' (hcl 6 _ rfl hx 5 kR)
   refine wpZ 38 Tryz.underlying38 _ _ rfl w8.heap.size v1 [] (by simp [Act.eval,zt1]) hv1 _ (genV C x1) (by simp [Act.eval,zt2]) (HU1.out.below hI.bel).zs (by rw [genV_length]; simp; omega) hI.bel.size ?_;intro v' w' hv' hgr hxg hob;rw [List.nil_append] at hv';refine hK _ _ (hI.step hL ⟨3,57,_⟩ mm3 rfl ((Below.refl _ _).grown hgr hI.bel.size (fun g hg=>hv1.own g hg)) hv' ?_);refine xgm.2 ⟨fun _ _ _ _ _ h=>h,xgm.2 ⟨fun _ _ h3=>absurd rfl h3,xgm.2 ⟨fun _ _ _ _ _ h=>h,xgm.2 ⟨fun h1=>absurd rfl h1,xgm.2 ⟨fun _ h2=>(c4' h2).elim,xgm.2 ⟨fun _ h2=>(c5' h2).elim,xgm.2 ⟨fun _ h2=>(c6' h2).elim,?_⟩⟩⟩⟩⟩⟩⟩;repeat' (first | exact xgn _ | refine xgm.2 ⟨fun _ _ _ _ _ h=>h,?_⟩)
  ·go_simp
   refine (r1of_any 1 wS oM oM).mono ?_;rintro e wa ⟨u,rfl,hu,hba⟩;exact hK _ _ (hI.step hL ⟨4,58,_⟩ mm4 rfl (hba.mono hI.bel.size) hu fun t ht _ _ _ _ v hp=>lbl t ht _ _ _ hba hp)
  ·obtain ⟨v4,zt4,hv4⟩:=hI.val _ mm4 (hd 4) (by show L[5]? ≠ some true; rw [hL]; simp)
   obtain ⟨tn,ta,tl,tc,tx,rfl,htx⟩:=id hv4;go_simp;exact hK _ _ (hI.step hL ⟨5,59,_⟩ mm5 rfl ((Below.refl _ _).alloc hI.bel.size _) (zs_one hv4) fun t ht _ _ _ _ v hp=>lbl t ht _ _ _ ((Below.refl _ _).alloc (xgf _) _) hp)
  ·obtain ⟨v3,zt3,hv3⟩:=hI.val _ mm3 (hd 3) (by show L[6]? ≠ some true; rw [hL]; simp)
   obtain ⟨v5,zt5,hv5⟩:=hI.val _ mm5 (hd 5) (by show L[6]? ≠ some true; rw [hL]; simp);have l5:=hd 5 kR;have l3:=hd 3 kR;refine wpZ 38 Tryz.underlying38 _ _ rfl w8.heap.size v3 (genV C x1) (by simp [Act.eval,zt3]) hv3 v5 [1] (by simp [Act.eval,zt5]) hv5 (by rw [genV_length]; simp; omega) hI.bel.size ?_;intro v' w' hv' hgr hxg hob;refine hK _ _ (hI.step hL ⟨6,60,_⟩ mm6 rfl ((Below.refl _ _).grown hgr hI.bel.size (fun g hg=>hv3.own g hg)) hv' ?_);refine xgm.2 ⟨fun _ _ _ _ _ h=>h,xgm.2 ⟨fun _ _ _ h4=>absurd l3 h4,xgm.2 ⟨fun _ _ _ _ _ h=>h,xgm.2 ⟨fun _ _ h3=>absurd rfl h3,xgm.2 ⟨fun _ _ _ h4=>absurd l5 h4,xgm.2 ⟨fun _ _ h3=>absurd rfl h3,xgm.2 ⟨fun h1=>absurd rfl h1,?_⟩⟩⟩⟩⟩⟩⟩;repeat' (first | exact xgn _ | refine xgm.2 ⟨fun _ _ _ _ _ h=>h,?_⟩)
  ·obtain ⟨v6,zt6,hv6⟩:=hI.val _ mm6 (hd 6) (by show L[7]? ≠ some true; rw [hL]; simp)
   have zt0:=hI.e mm0 (hd 0) rfl;go_simp;refine (hreduce2_bad _ _ R C G _ wS (HFH.out.below hI.bel) HG.out.fit hv6.vec (by rw [List.length_append,genV_length]; simp)).mono ?_;rintro e wa ⟨rfl,hba⟩;exact hK _ _ (hI.step hL ⟨7,61,_⟩ mm7 rfl (hba.mono hI.bel.size) rfl fun t ht _ _ _ _ v hp=>lbl t ht _ _ _ hba hp)
  ·have zt:=hI.e mm7 (hd 7) rfl
   go_simp;exact hK _ _ (hI.step hL ⟨8,53,_⟩ mm8 rfl (Below.refl _ _) rfl fun _ _ _ _ _ _ _ h=>h)
  ·have zt:=hI.e mm8 (hd 8) rfl
   go_simp;exact hK _ _ (hI.step hL ⟨9,62,_⟩ mm9 rfl (Below.refl _ _) rfl fun _ _ _ _ _ _ _ h=>h)
  ·have zt:=hI.e mm8 (hd 8) rfl
   go_simp;exact hK _ _ (hI.step hL ⟨10,63,_⟩ mm10 rfl (Below.refl _ _) rfl fun _ _ _ _ _ _ _ h=>h)
  ·have zt:=hI.e mm8 (hd 8) rfl
   go_simp;exact hK _ _ (hI.step hL ⟨11,64,_⟩ mm11 rfl (Below.refl _ _) rfl fun _ _ _ _ _ _ _ h=>h)
  ·have zt:=hI.e mm9 (hd 9) rfl
   go_simp;exact hK _ _ (hI.step hL ⟨12,17,_⟩ mm12 rfl (Below.refl _ _) rfl fun _ _ _ _ _ _ _ h=>h)
  ·have zt:=hI.e mm10 (hd 10) rfl
   go_simp;exact hK _ _ (hI.step hL ⟨13,18,_⟩ mm13 rfl (Below.refl _ _) rfl fun _ _ _ _ _ _ _ h=>h)
  ·have zt:=hI.e mm11 (hd 11) rfl
   go_simp;exact hK _ _ (hI.step hL ⟨14,19,_⟩ mm14 rfl (Below.refl _ _) rfl fun _ _ _ _ _ _ _ h=>h)
 intro T w9 hI;have hbw9:=hI.bel;have hT : Fin w9 [E 0 54 (.agg #[.int .i64 R,.int .i64 C,.slice f1 f2 f3]),⟨1,55,fun _ _=>True⟩,E 2 56 (.slice uo C uc),⟨3,57,fun _ _=>True⟩,⟨4,58,fun _ _=>True⟩,⟨5,59,fun _ _=>True⟩,⟨6,60,fun _ _=>True⟩,E 7 61 (.tuple #[.slice none 0 0,.slice none 0 0,.int .i64 50]),E 8 53 (.tuple #[.slice none 0 0,.slice none 0 0,.int .i64 50]),E 9 62 (.slice none 0 0),E 10 63 (.slice none 0 0),VN 11 64 50,E 12 17 (.slice none 0 0),E 13 18 (.slice none 0 0),VN 14 19 50] _ T:=hI.fin kR;clear hI lbl;simp only [Fin,E,EI,VP,VSl,VN,xgg,xgh,xgi,xgj] at hT;obtain ⟨va1,-,va3,-,va4,-,va5,-,va6,-,rfl⟩:=hT;have HU1:=xgv (HU1.out.below hbw9);have HFH:=xgv (HFH.out.below hbw9);have HM:=xgv (HM.out.below hbw9);have T8:=T8.below hbw9;have T9:=T9.below hbw9;have hB:=nx hB hbw9;have HR1:=xgv (HR1.out.below hbw9);have HR2:=xgv (HR2.out.below hbw9);clear c1 c2 c3 c4 c5 c6;obtain ⟨qo1,qn1,qc1,rfl,-⟩:=id HQ1.out;obtain ⟨qo2,qn2,qc2,rfl,-⟩:=id HQ2.out;obtain ⟨so1,sn1,sc1,rfl,-⟩:=id HR1.out;obtain ⟨so2,sn2,sc2,rfl,-⟩:=id HR2.out;go_wp2_with fail
 refine (samevT _ _ Q1 w9 (HQ1.out.below hbw9) (HQ2.out.below hbw9)).mono ?_;rintro e wa ⟨vt,rfl,rfl,hba⟩;go_wp2_with fail
 refine (samevT _ _ S1 wa (HR1.out.below hba) (HR2.out.below hba)).mono ?_;rintro e wb ⟨vt,rfl,rfl,hbb⟩;have hbc:=nx hba hbb;have HU1:=xgv (HU1.out.below hbc);have HFH:=xgv (HFH.out.below hbc);have HM:=xgv (HM.out.below hbc);have T8:=T8.below hbc;have T9:=T9.below hbc;have hB:=nx hB hbc;have HR1:=xgv (HR1.out.below hbc);obtain ⟨c1,c2,c3,c4,c5,c6⟩:=T8.three;have HS2 : HidS (MulSm [genV R x2] M 1 R C):=⟨mulSm_row hR4 HA9.out HK9.out⟩;obtain ⟨f,hf⟩ : ∃f,mulf [genV R x2] M R 0 = f:=⟨_,rfl⟩;have HFB : HidS (∀b,b < C->(f b).natAbs<=324):=⟨fun b hb=>by rw [<-hf]; have:=mulf_row HA9.out HK9.out hb (xgf R); omega⟩;have HFZ : HidS (∀b,b < C->rest R C (ent G) f b = 0):=⟨by rw [<-hf]; exact HG.out.zero x2⟩;have HFC : HidS (∀b,b < C->rest R C (ent G) (fun b=>x1 b + f b) b = rest R C (ent G) x1 b):=⟨by rw [<-hf]; exact HG.out.comb x2 x1⟩;have HACT : HidS (∀W vv hv,VecV W vv (genV R x2)->MatV W hv R C M->Calls Tryz.prog 25 #[vv,hv] W fun e w'=>∃u,e = .returned u/\VecV w' u (genV C f)/\Below W.heap.size W w'):=⟨fun W vv hv a1 a2=>by
  rw [<-hf];exact act_any _ _ R C M x2 W a1 a2 HF.out oM oM HS2.out⟩
 clear hf;have hl1:=lastsB_vec (genV R x2);have hl2:=lastsB_vec (genV C f);go_upto_region 10 with (fail)
 refine wp_region_each rfl (RV wb _ [E 0 84 (.slice ko kn kcap),VP 1 85 w2.heap.size 0,VN 2 86 R,⟨3,87,fun w v=>VecV w v (genV R x2)⟩,E 4 88 (.agg #[.int .i64 R,.int .i64 C,.slice ro rn rc]),⟨5,89,fun w v=>VecV w v (genV C f)⟩,⟨6,20,fun w v=>VecV w v (genV C f)⟩]) kR RV.start (RV.fin kR ?fin1) ?steps1
 case steps1=>
  refine ⟨?_,?_,?_,?_,?_,?_,?_,trivial⟩ <;> (intro L T wS hL hd hcl hI K hK; try refine step_wanted rfl ?_)
  ·exact xgs (hI.k 2 rfl kR)
  ·exact xgs (hI.k 8 rfl kR)
  ·have zt1:=hI.e mm1 (hd 1)
   have cc0:=hI.cell c1; exact xgu
  ·have zt0:=hI.e mm0 (hd 0)
   have zt2:=hI.e mm2 (hd 2);go_simp;refine (HV2.out _ (h2.below (nx hB hI.bel))).mono ?_;rintro e wa ⟨v,rfl,hv,hba⟩;exact hK _ _ ((hI.world hba).y mm3 hv)
  ·have zt:=hI.k 8 rfl kR
   have cc0:=hI.cell c1;have cc1:=hI.cell c2;have cc2:=hI.cell c3; exact xgu
  ·obtain ⟨v3,zt3,h3⟩:=hI.v mm3 (hd 3)
   have zt4:=hI.e mm4 (hd 4);go_simp;refine (HACT.out _ _ _ h3 (HM.out.below hI.bel)).mono ?_;rintro e wa ⟨v,rfl,hv,hba⟩;exact hK _ _ ((hI.world hba).y mm5 hv)
  ·obtain ⟨z5,zt5,hz5⟩:=hI.v mm5 (hd 5)
   go_simp;exact hK _ _ (hI.y mm6 hz5)
 intro wd hbwd T hT;simp only [Fin,E,EI,VP,VSl,VN,xgg,xgh,xgi,xgj] at hT;obtain ⟨vb3,hb3,vb5,hb5,vb6,hb6,rfl⟩:=hT;have hu6 : VecV wd vb6 (genV C f):=hb6;obtain ⟨fo,fn,fc,rfl,fl,-⟩:=id hu6;rw [genV_length] at fl;subst fl;have HU6:=xgv hu6;have HU1:=xgv (HU1.out.below hbwd);have HFH:=xgv (HFH.out.below hbwd);have T8:=T8.below hbwd;have T9:=T9.below hbwd;have hB:=nx hB hbwd;have HR1:=xgv (HR1.out.below hbwd);clear c1 c2 c3 c4 c5 c6 hb6 hu6 hb3 hb5 hl1 hl2;obtain ⟨c1,c2,c3,c4,c5,c6⟩:=T9.three;go_wp2_with fail
 refine (hreduce2_any BD_bsd _ _ R C G f wd HFH.out HG.out.fit HU6.out oM oM (HG.out.ok f fun b hb=>by have:=HFB.out b hb; omega) (by have:=pow_BD (a:=0) dE; exact this)).mono ?_;rintro e we ⟨q3,s3,rfl,hq3,hs3,hbe⟩;have hz3 : VecV we s3 (genV C fun _=>0):=by
  rwa [show genV C (redR C (ent G) f R) = genV C fun _=>0 from genV_congr fun b hb=>HFZ.out b hb] at hs3
 obtain ⟨zo,zn,zc,rfl,zl,-⟩:=id hz3;rw [genV_length] at zl;subst zl;have HZ3:=xgv hz3;have HU1:=xgv (HU1.out.below hbe);have HU6:=xgv (HU6.out.below hbe);have HFH:=xgv (HFH.out.below hbe);have T8:=T8.below hbe;have T9:=T9.below hbe;have hB:=nx hB hbe;have HR1:=xgv (HR1.out.below hbe);clear c1 c2 c3 c4 c5 c6 hs3 hz3 hq3;have hv24:=vecO_made we (xgf we.heap.size);have hBe : Below we.heap.size we (we.alloc (.cells #[] tI)):=(Below.refl _ _).alloc (xgf _) _;go_wp2;go_loopw [24,25] (fun uv jv wr=>∃j : Nat,j<=C/\jv = .int .i64 j/\Below we.heap.size we wr/\VecO wr we.heap.size uv (genV j fun b=>x1 b + f b)) (fun _ jv _=>C - (intOf jv).toNat)
 case atStart=>exact ⟨0,by omega,rfl,hBe,hv24⟩
 case round=>
  clear hv24 hBe;obtain ⟨j,hj,rfl,hbl,hv24⟩:=hrel;have T8:=T8.below hbl;obtain ⟨c1,c2,c3,c4,c5,c6⟩:=T8.three;by_cases hlt : j < C
  ·obtain ⟨b1,z1',y1,y2,y3,y4,rfl,hb1',hz1',o1,o2,hv1⟩:=(HU1.out.below hbl).cell (k:=j) (by rw [genV_length]; exact hlt)
   obtain ⟨b2,z2',y5,y6,y7,y8,rfl,hb2',hz2',o3,o4,hv2⟩:=(HU6.out.below hbl).cell (k:=j) (by rw [genV_length]; exact hlt);rw [genV_get hlt] at hz1' hz2';obtain rfl:=Option.some.inj hz1';obtain rfl:=Option.some.inj hz2';obtain ⟨p,hp⟩ : ∃p,x1 j = p:=⟨_,rfl⟩;obtain ⟨q,hq⟩ : ∃q,f j = q:=⟨_,rfl⟩;have HPQ : HidS (Sm p/\Sm q):=⟨by
    have a1:=HX9.out j;have a2:=HFB.out j hlt;rw [hp] at a1;rw [hq] at a2;exact ⟨BD_sm (pow_BD (Nat.le_trans a1 dE)),BD_sm (pow_BD (Nat.le_trans a2 dE))⟩⟩
   rw [hp] at hv1;rw [hq] at hv2;have HP:=xgw hp;have HQ:=xgw hq;have hlz : LastsB (fun w v=>ZsV w v [p + q]):=fun _ _ _ e h=>ZsV.below h e
   clear hz1' hz2' hp hq;go_upto_region 16 with (fail)
   refine wp_region_headed 11 rfl (RV wr _ [E 0 104 (u24),VSl 1 105 b1 C uc,VN 2 106 j,VP 3 107 b1 (j * 2),E 4 108 (.agg #[.bool y1,.slice y2 y3 y4]),VSl 5 109 b2 C fc,VN 6 110 j,VP 7 111 b2 (j * 2),E 8 112 (.agg #[.bool y5,.slice y6 y7 y8]),EI 9 113 (p + q),⟨10,114,fun w v=>ZsV w v [p + q]⟩]) kR RV.start (RV.fin kR ?fin2) ?steps2
   case steps2=>
    refine ⟨?_,?_,?_,?_,?_,?_,?_,?_,?_,?_,?_,trivial⟩ <;> (intro L T wS hL hd hcl hI K hK; try refine step_wanted rfl ?_)
    ·exact xgs (hI.k 24 rfl kR)
    ·exact xgs (hI.k 10 rfl kR)
    ·exact xgs (hI.k 25 rfl kR)
    ·exact xgt (hI.e mm1 (hd 1)) (hI.e mm2 (hd 2))
    ·have zt3:=hI.e mm3 (hd 3)
     have cc0:=hI.cell o1;have cc1:=hI.cell o2; exact xgu
    ·exact xgs (hI.k 20 rfl kR)
    ·exact xgs (hI.k 25 rfl kR)
    ·exact xgt (hI.e mm5 (hd 5)) (hI.e mm6 (hd 6))
    ·have zt7:=hI.e mm7 (hd 7)
     have cc0:=hI.cell o3;have cc1:=hI.cell o4; exact xgu
    ·have zt4:=hI.e mm4 (hd 4)
     have zt8:=hI.e mm8 (hd 8);go_simp;refine (r1add_any _ _ p q _ (hv1.ext (lx hI.bel)) (hv2.ext (lx hI.bel)) HPQ.out.1 HPQ.out.2).mono ?_;exact xgo
    ·obtain ⟨z9,zt9,hz9⟩:=hI.v mm9 (hd 9)
     obtain ⟨tn,ta,tl,tc,tx,rfl,htx⟩:=id hz9;go_simp;exact hK _ _ ((hI.world ((Below.refl _ _).alloc (xgf _) _)).y mm10 (zs_one hz9))
   intro wx hbwx T hT;simp only [Fin,E,EI,VP,VSl,VN,xgg,xgh,xgi,xgj] at hT;obtain ⟨vc9,hc9,vc10,hc10,rfl⟩:=hT;simp only [xgl,xgk];have hblx:=nx hbl hbwx;have hv24:=hv24.below hbwx;go_wp2_with (at_builtin; go_loud (refine appZ 38 Tryz.underlying38 rfl _ _ rfl we.heap.size u24 (genV j fun b=>x1 b + f b) rfl hv24 _ [p + q] rfl hc10 (by rw [genV_length]; simp; omega) hblx.size ?_); intro v' w' hown' hgr hxg hob)
   have hbn:=hblx.grown hgr hblx.size (fun g hg=>hv24.own g hg);have hown' : VecO w' we.heap.size v' (genV (j + 1) fun b=>x1 b + f b):=by
    rw [show genV (j + 1) (fun b=>x1 b + f b) = genV j (fun b=>x1 b + f b) ++ [p + q] from by rw [<-HP.out,<-HQ.out]; unfold genV; rw [List.range_succ,List.map_append]; rfl];exact hown'
   clear hgr hxg hob hlz c1 c2 c3 c4 c5 c6 o1 o2 o3 o4 hv1 hv2 hc9 hc10;go_roundw
   case rel=>exact ⟨j + 1,by omega,by simp,hbn,hown'⟩
   case measure=>simp [intOf]; omega
  ·have hjC : j = C:=by omega
   rw [hjC] at hv24;have HV:=xgv hv24.vec;have HU1:=xgv (HU1.out.below hbl);have HFH:=xgv (HFH.out.below hbl);have T9:=T9.below hbl;have HR1:=xgv (HR1.out.below hbl);have HZ3:=xgv (HZ3.out.below hbl);have hB:=nx hB hbl;obtain ⟨vo,vn,vc,rfl,vl,-⟩:=id HV.out;rw [genV_length] at vl;subst vl;obtain ⟨d1,d2,d3,d4,d5,d6⟩:=T9.three;clear hjC hv24;go_wp2_with fail
   refine (hreduce2_any BD_bsd _ _ R C G (fun b=>x1 b + f b) wr HFH.out HG.out.fit HV.out oM oM (HG.out.ok _ fun b hb=>by have:=HFB.out b hb; have:=HX9.out b; omega) (by have:=pow_BD (a:=0) dE; exact this)).mono ?_;rintro e wf ⟨q4,s4,rfl,hq4,hs4,hbf⟩;have hs4 : VecV wf s4 S1:=by
    rw [<-HS1.out];rwa [show genV C (redR C (ent G) (fun b=>x1 b + f b) R) = genV C (redR C (ent G) x1 R) from genV_congr fun b hb=>HFC.out b hb] at hs4
   obtain ⟨wo,wn,wc,rfl,-⟩:=id hs4;have HS4:=xgv hs4;have HR1:=xgv (HR1.out.below hbf);have HZ3:=xgv (HZ3.out.below hbf);have T8:=T8.below hbf;have hB:=nx hB hbf;clear c1 c2 c3 c4 c5 c6 d1 d2 d3 d4 d5 d6 hs4 hq4;obtain ⟨c1,c2,c3,c4,c5,c6⟩:=T8.three;go_wp2_with fail
   refine (zero_true _ _ wf HZ3.out (fun z hz=>by unfold genV at hz; simp at hz; exact hz.2.symm ▸ rfl)).mono ?_;rintro e wg ⟨rfl,hbg⟩;go_wp2_with fail
   refine (samevT _ _ S1 wg (HS4.out.below hbg) (HR1.out.below hbg)).mono ?_;rintro e wh ⟨vt,rfl,rfl,hbh⟩;have hB:=nx (nx hB hbg) hbh;go_wp2;go_ret;exact ⟨rfl,hB⟩
end Go.Proofs.YtgnmdddaiefooaaGreat

namespace Go.Proofs.YtgnmdddaiefooaaGreat
open Go.ChangeShapes Go.WideShapes Go.ChangeAt Go.RowKit
theorem open_i8v {H : Type} {enc : TypeId × Value->H} {w : World} {b0 : Nat} {r : Reach} {v : Value} {d : DataW H} {ps : List MemPlace} (hval : Value.okWide Tryz.prog w r b0 22 v)
  (h : DataW.Trod enc Tryz.prog w 0 (fun _=>true) true 22 v d ps) (hlt : ∀x ∈ ps,x.block < w.heap.size) : ∃ls,I8V w v ls:=by
 obtain ⟨a0,len0,cap0,rfl⟩:=okWide_slice Tryz.underlying22 hval;obtain ⟨fuel,hf⟩:=h;obtain ⟨ao,n,cap,ls,hk,hI⟩:=open_i8 hf hlt;simp [Value.cells] at hk;obtain ⟨rfl,rfl,rfl⟩:=hk;exact ⟨ls,hI⟩
theorem hermiteReduces_lifted (os : Os) (started : os.Started) (H : Type) (enc : TypeId × Value->H) :
  ReturnsInHanded {} Tryz.checked os 9 .any (Rows.hermiteReducesSpec.pre6 enc Tryz.prog Tryz.f9 Rows.hermiteReducesRow.domain false) (Rows.hermiteReducesSpec.post enc Tryz.prog Tryz.f9 false true false false):=by
 refine returnsInHanded_of_change (C:=Tryz.checked) Tryz.own started kR Tryz.func9
  (ChangeSpec.witness6 (enc:=enc) (C:=Tryz.checked) false ⟨#[],#[.agg #[.int .u8 0,.int .u8 0,.slice none 0 0],.slice none 0 0,.slice none 0 0],[]⟩ 8 kR kR kR kR) ?_
 intro W base args ds gs before hval0 hW hcnd _;have hval : ∀(j : Nat) t v,Tryz.f9.params[j]? = some t->args[j]? = some v->Value.okWide Tryz.prog W .any base t v:=hval0;have hW':=hW;obtain ⟨p,q,hA0,hV,rfl,hfz,hnd⟩:=hW;have hA : DataW.TrodAll enc Tryz.prog W 0 (fun _=>true) true Tryz.f9.params.toList args.toList ds p:=hA0;rw [Tryz.params9] at hA hval;obtain ⟨v0,v1,v2,d0,d1,d2,p0,p1,p2,rfl,rfl,rfl,h0,h1,h2⟩:=trodAll_three hA;obtain ⟨rfl,rfl⟩:=trodVars_none hV;clear hA0 hval0;simp only [List.append_nil] at hW';have hlt0 : ∀x ∈ p0,x.block < W.heap.size:=fun x hx=>hW'.lt x (by simp [hx])
 have hlt1 : ∀x ∈ p1,x.block < W.heap.size:=fun x hx=>hW'.lt x (by simp [hx])
 have hlt2 : ∀x ∈ p2,x.block < W.heap.size:=fun x hx=>hW'.lt x (by simp [hx])
 obtain ⟨a,b,sv,ls,rfl,ha,hb,hI⟩:=open_raw (hval 0 24 v0 rfl rfl) h0 hlt0;obtain ⟨ls1,hI1⟩:=open_i8v (hval 1 22 v1 rfl rfl) h1 hlt1;obtain ⟨ls2,hI2⟩:=open_i8v (hval 2 22 v2 rfl rfl) h2 hlt2;refine (hermiteReduces_any sv v1 v2 a b ls ls1 ls2 W hI hI1 hI2 ha hb).mono fun e W' ⟨he,hB⟩=>?_
 subst he;refine ⟨_,rfl,_,_,_,[],p0 ++ (p1 ++ p2),[],hW',?_,?_,rfl,hB.frame _,fun h=>by cases h⟩
 ·exact trodAll_mk1 (shut_bool Tryz.underlying4 true)
 ·exact trodAll_mk3 (Below.trod Tryz.laidOut kR (of_decide_eq_true kR) h0 hB hlt0) (Below.trod Tryz.laidOut kR (of_decide_eq_true kR) h1 hB hlt1) (Below.trod Tryz.laidOut kR (of_decide_eq_true kR) h2 hB hlt2)
theorem hermiteReduces_holds : Rows.HermiteReducesSaid:=
 OpenClaim.holds_of_wide 9 Tryz.f9 rfl rfl rfl rfl rfl rfl rfl ⟨rfl,rfl,rfl,rfl,rfl⟩ rfl rfl rfl rfl rfl kR Tryz.func9 kR
  (of_decide_eq_true kR) (by unfold Func.isWrapper; first | (rw [if_pos (by decide +kernel)]; kernel_rfl) | (rw [if_neg (by decide +kernel)]; exact ⟨rfl,rfl⟩))
  (fun os started H enc _=>hermiteReduces_lifted os started H enc)
end Go.Proofs.YtgnmdddaiefooaaGreat
