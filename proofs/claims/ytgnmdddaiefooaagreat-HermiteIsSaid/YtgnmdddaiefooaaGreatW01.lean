/- torsionlaw12.HermiteIs: whatever the input, it returns true, and the input reads as it did. No conditions. -/
import Derived.Test.YtgnmdddaiefooaaGreatRows
import Derived.Test.YtgnmdddaiefooaaGreatD43
import Derived.Test.YtgnmdddaiefooaaGreatD44
import Derived.Test.YtgnmdddaiefooaaGreatD48
import Derived.Test.YtgnmdddaiefooaaGreatD49
set_option linter.unusedVariables false
set_option linter.unusedSimpArgs false
set_option linter.unusedSectionVars false
set_option maxHeartbeats 16000000
set_option maxRecDepth 100000
namespace Go.Proofs.YtgnmdddaiefooaaGreat
open Go.RowKit
theorem r12form_small {M0 e : Nat} (hM1 : 1<=M0) (hM : 2 * M0<=2 ^ e) (he : e<=15) (v : Value) (M : List (List Int)) (R C : Nat) (w : World) (h : MatV w v R C M) (hF : Fits R C M) (hR : R<=4) (hC : C<=4) (hA : leM M0 R C (ent M)) :
  Calls Tryz.prog 43 #[v] w fun e w'=>∃v r c H U V,e = .returned v/\HForm R C r c (ent M) H U V/\leM (24 * (8 * M0) ^ 4) R C H/\leM (gk 40 M0) R R U/\leM (gk 40 M0) R R V/\HermV w' v R C (genM R C H) (genM R R U) (genM R R V)/\Below w.heap.size w w':=by
 have hE : eE R R<=2 ^ 20:=eE_le hR (xgf _);have hg : gx (eE R R) M0<=gk 40 M0:=by
  rw [<-gx_gk];exact gx_mono hM1 (Nat.le_trans hE (Nat.pow_le_pow_right oM oM))
 have hgB : gx (eE R R) M0 < BD:=Nat.lt_of_le_of_lt hg (gk_BD (xgf _) hM1 hM oM);refine (r12form_any hM1 v M R C w h hF oM oM hA hgB).mono ?_;rintro ee w' ⟨v,c,r,κ,x,rfl,hko,hcr,hv,hb⟩;have hf:=hko.form hcr;have hle:=hko.2.mono (Nat.le_trans (gx_mono hM1 (eE_mono R hko.1.rn)) hg);exact ⟨v,r,κ,_,_,_,rfl,hf,hf.bound hR hM1 hA,hle.2.1,fun a ha b hb=>hle.2.2 b hb a ha,hv,hb⟩
theorem HLat.congr {R C r : Nat} {c : Nat->Nat} {A A' H H' : Nat->Nat->Int} (h : HLat R C r c A H) (e1 : ∀a,a < R->∀b,b < C->A' a b = A a b) (e2 : ∀a,a < R->∀b,b < C->H a b = H' a b) (hn : Hnf C R r c H') : HLat R C r c A' H':=
 ⟨hn,h.sp.congr (fun a ha b hb=>(e2 a ha b hb).symm) e1,h.sp'.congr e1 (fun a ha b hb=>(e2 a ha b hb).symm)⟩
theorem HLat.ops {R C r : Nat} {c : Nat->Nat} {A H : Nat->Nat->Int} {l : List Op} (hl : okOps R l) (h : HLat R C r c (opsF l A) H) : HLat R C r c A H:=
 ⟨h.hnf,h.sp.trans (spans_ops hl A).2,(spans_ops hl A).1.trans h.sp'⟩
def HMatV (R C : Nat) (W : List (List Int)) : World->Value->Prop:=fun w v=>∃U V,HermV w v R C W U V
theorem field_herm0 (a b c d e f g h i : Value) (W : World) : (Instr.field 62 (.agg #[a,b,c,d,e,f,g,h,i]) 0).run Tryz.prog W = .ok (.agg #[a,b,c]) W:=by
 kernel_rfl
theorem HLat.rows {R C r r' : Nat} {c c' : Nat->Nat} {A H H' : Nat->Nat->Int} (h : HLat R C r c A H) (h' : HLat R C r' c' A H') : r' = r/\genM r' C H' = genM r C H:=by
 obtain ⟨rfl,-,e2⟩:=hnf_unique h.hnf h'.hnf (h.sp.trans h'.sp') (h'.sp.trans h.sp');exact ⟨rfl,genM_congr fun i hi j hj=>e2 i (Nat.lt_of_lt_of_le hi h.hnf.le) j hj⟩
theorem r12isD (v : Value) (R C : Int) (M : List (List Int)) (b : Bool) (w : World) (h : MatV w v R C M) (hS : ∀r ∈ M,∀z ∈ r,Sm z) (hb : decide (IsHP R C M) = b) :
  Calls Tryz.prog 29 #[v] w fun e w'=>∃v,e = .returned v/\v = .bool b/\Below w.heap.size w w':=by
 refine (r12is_any v R C M w h hS).mono ?_;rintro e w' ⟨d,rfl,hd,hb'⟩;refine ⟨_,rfl,?_,hb'⟩;have : d = b:=by
  rw [<-hb];cases d
  ·exact (decide_eq_false fun hp=>Bool.false_ne_true (hd.2 hp)).symm
  ·exact (decide_eq_true (hd.1 rfl)).symm
 rw [this]
theorem sm_leM {B R C : Nat} {M : List (List Int)} (hF : Fits R C M) (h : leM B R C (ent M)) (hB : B<=2 ^ 90) : ∀r ∈ M,∀z ∈ r,Sm z:=by
 rw [fits_genM hF];exact genM_all fun a ha b hb=>BD_sm (bd90 (Nat.le_trans (h a ha b hb) hB))
theorem setM_fits {R C i j : Nat} {M : List (List Int)} {z : Int} (hF : Fits R C M) (hi : i < R) (hj : j < C) : Fits R C (setM M i j z):=by
 rw [fits_genM hF,setM_genM _ hi hj];exact genM_fits _ _ _
theorem setM_leM {B R C i j : Nat} {M : List (List Int)} {z : Int} (hF : Fits R C M) (h : leM B R C (ent M)) (hi : i < R) (hj : j < C) (hz : z.natAbs<=B) : leM B R C (ent (setM M i j z)):=by
 rw [fits_genM hF,setM_genM _ hi hj];refine ent_leM fun a ha b hb=>?_
 split
 ·exact hz
 ·exact h a ha b hb
theorem hermiteIs_any (v : Value) (r c p q : Nat) (k : Int) (ls : List Int) (w : World) (h : I8V w v ls) (hr : r<=255) (hc : c<=255) (hp : p<=255) (hq : q<=255) (hk : -128<=k/\k<=127) :
  Calls Tryz.prog 10 #[.agg #[.int .u8 r,.int .u8 c,v],.agg #[.int .u8 p,.int .u8 q],.int .i8 k] w fun e w'=>e = .returned (.bool true)/\Below w.heap.size w w':=by
 obtain ⟨ao,n,cap,rfl,-,-,-,-,-⟩:=id h;obtain ⟨R,hR⟩ : ∃R : Nat,R = r % 5:=⟨_,rfl⟩;obtain ⟨C,hC⟩ : ∃C : Nat,C = c % 5:=⟨_,rfl⟩;have hR4 : R<=4:=by omega
 have hC4 : C<=4:=by omega
 have HR:=xgw hR;have HC:=xgw hC;clear hR hC;obtain ⟨M,hM⟩ : ∃M,genM R C (digF C ls) = M:=⟨_,rfl⟩;have HMade : HidS (∀w,I8V w (.slice ao n cap) ls->Calls Tryz.prog 14 #[.agg #[.int .u8 r,.int .u8 c,.slice ao n cap]] w fun e w'=>∃v,e = .returned v/\MatV w' v R C M/\Below w.heap.size w w'):=⟨fun w h=>by
  rw [<-hM];exact madeM _ r c ls w h hr hc R C HR.out HC.out⟩
 have HF : HidS (Fits R C M):=⟨by rw [<-hM]; exact genM_fits _ _ _⟩;have HA9 : HidS (leM 9 R C (ent M)):=⟨by rw [<-hM]; exact ent_leM (digF_leM R C C ls)⟩;clear hM;have HSM : HidS (∀r ∈ M,∀z ∈ r,Sm z):=⟨sm_leM HF.out HA9.out dE⟩;go_enter Tryz.func10,Tryz.ntmps10;go_upto_region 1 with (fail)
 refine wp_world ?_;intro W0 hW0;obtain ⟨hB0,bx,bp,hs0⟩:=world2 hW0;clear hW0;go_wp2_with fail
 refine (sanity12_any W0).mono ?_;rintro e w1 ⟨rfl,hb1⟩;have hB:=nx hB0 hb1;have bx:=bx.below hb1;have bp:=bp.below hb1;obtain ⟨c1,c2,c3,c4,c5,c6⟩:=bx.three;go_wp2_with fail
 refine (HMade.out w1 (h.below hB)).mono ?_;rintro e w2 ⟨va,rfl,hm,hb2⟩;obtain ⟨ro,rn,rc,rfl⟩:=hm.agg;have hB:=nx hB hb2;have bp:=bp.below hb2;clear c1 c2 c3 c4 c5 c6 bx;go_upto_region 3 with (fail)
 refine wp_world ?_;intro W3 hW3;obtain ⟨hB3,T8,hs3⟩:=world1 hW3;have HM:=xgv (hm.below hB3);have hB:=nx hB hB3;have bp:=bp.below hB3;clear hW3 hm;obtain ⟨c1,c2,c3,c4,c5,c6⟩:=T8.three;have hfl:=field_herm0;go_wp2_with fail
 refine (r12form_small (M0:=9) (e:=5) dE dE dE _ M R C W3 HM.out HF.out hR4 hC4 HA9.out).mono ?_;rintro e w4 ⟨fv,rk,kc,H,U,V,rfl,hf,hle,-,-,hfv,hb4⟩;obtain ⟨f1,f2,f3,f4,f5,f6,f7,f8,f9,rfl,hfh⟩:=hfv.agg;obtain ⟨W,hW⟩ : ∃W,genM R C H = W:=⟨_,rfl⟩;have HFW : HidS (Fits R C W):=⟨by rw [<-hW]; exact genM_fits _ _ _⟩;have HLEW : HidS (leM 644973000 R C (ent W)):=⟨by rw [<-hW]; exact ent_leM (hle.mono dE)⟩;have HIW : HidS (IsHP R C W):=⟨by rw [<-hW]; exact isHP_genM.2 ⟨_,_,hf.hnf⟩⟩;rw [hW] at hfh;have HM:=xgv (HM.out.below hb4);have T8:=T8.below hb4;have hB:=nx hB hb4;have bp:=bp.below hb4;have HM4:=xgv HM.out;have T84:=T8;have hB4:=hB;have HW2 : HidS (leM 644972544 R C (ent W)):=⟨by rw [<-hW]; exact ent_leM (hle.mono dE)⟩;clear c1 c2 c3 c4 c5 c6 hfv hf hle hW;go_wp2_with fail
 refine (r5copied_any _ R C W w4 hfh HFW.out oM oM (sm_leM HFW.out HLEW.out dE)).mono ?_;rintro e w5 ⟨hv,bs,rfl,⟨hbl,A,rfl,ho⟩,hb5⟩;obtain ⟨ho',hn,hc,rfl,-⟩:=id ho.rows;have hlts:=ho.lts;have hC:=hb5;have HM:=xgv (HM.out.below hb5);have T8:=T8.below hb5;have hB:=nx hB hb5;have bp:=bp.below hb5;clear hfh hfl;go_upto_region 4 with (fail)
 refine wp_world ?_;intro W5 hW5;obtain ⟨hB5,T9,hs5⟩:=world1 hW5;have HM:=xgv (HM.out.below hB5);have ho:=ho.below hB5;have hC:=nx hC hB5;have T8:=T8.below hB5;have hB:=nx hB hB5;have bp:=bp.below hB5;have HMV : HidS (MatV W5 (.agg #[.int .i64 R,.int .i64 C,.slice ho' hn hc]) R C W):=⟨⟨_,rfl,ho.rows⟩⟩;obtain ⟨dA,hdA⟩ : ∃d,decide (IsHP R C M) = d:=⟨_,rfl⟩;have HDA:=xgv hdA;clear hW5 hdA;obtain ⟨c1,c2,c3,c4,c5,c6⟩:=T8.three;obtain ⟨d1,d2,d3,d4,d5,d6⟩:=T9.three;refine wp_region_each rfl (RV W5 _ [E 0 20 (.agg #[.int .i64 R,.int .i64 C,.slice ro rn rc]),E 1 21 (.bool dA),E 2 22 (.agg #[.int .i64 R,.int .i64 C,.slice ro rn rc]),E 3 23 (.bool dA),E 4 24 (.bool false),E 5 25 (.bool false),E 6 26 (.agg #[.int .i64 R,.int .i64 C,.slice ho' hn hc]),E 7 27 (.bool true),E 8 28 (.bool false),E 9 29 (.bool false)]) kR RV.start (RV.fin kR ?fin1) ?steps1
 case steps1=>
  refine ⟨?_,?_,?_,?_,?_,?_,?_,?_,?_,?_,trivial⟩ <;> (intro L T wS hL hd hcl hI K hK; try refine step_wanted rfl ?_)
  ·have zt:=hI.k 8 rfl kR
   have cc0:=hI.cell c1;have cc1:=hI.cell c2;have cc2:=hI.cell c3; exact xgu
  ·have zt0:=hI.e mm0 (hd 0)
   go_simp;refine (hisT _ R C M dA _ (HM.out.below hI.bel) HDA.out).mono ?_;rintro e wa ⟨v,rfl,hv,hba⟩;exact hK _ _ ((hI.world hba).y mm1 hv)
  ·have zt:=hI.k 8 rfl kR
   have cc0:=hI.cell c1;have cc1:=hI.cell c2;have cc2:=hI.cell c3; exact xgu
  ·have zt2:=hI.e mm2 (hd 2)
   go_simp;refine (r12isD _ R C M dA _ (HM.out.below hI.bel) HSM.out HDA.out).mono ?_;rintro e wa ⟨v,rfl,hv,hba⟩;exact hK _ _ ((hI.world hba).y mm3 hv)
  ·exact xgt (hI.e mm1 (hd 1)) (hI.e mm3 (hd 3))
  ·exact xgs (hI.e mm4 (hd 4))
  ·have zg:=hI.e mm5 (hd 5)
   refine step_wanted xgp ?_;have zt:=hI.k 9 rfl kR;have cc0:=hI.cell d1;have cc1:=hI.cell d2;have cc2:=hI.cell d3; exact xgu
  ·have zg:=hI.e mm5 (hd 5)
   refine step_wanted xgp ?_;have zt6:=hI.e mm6 (hd 6);go_simp;refine (hisT _ R C W true _ (HMV.out.below hI.bel) (decide_eq_true HIW.out)).mono ?_;rintro e wa ⟨v,rfl,hv,hba⟩;exact hK _ _ ((hI.world hba).y mm7 hv)
  ·have zg:=hI.e mm5 (hd 5)
   refine step_wanted xgp ?_;exact xgs (hI.e mm7 (hd 7))
  ·exact xgt (hI.e mm5 (hd 5)) (hI.e mm8 (hd 8))
 intro w6 hbw6 T hT;simp only [Fin,E,EI,VP,VSl,VN,xgg,xgh,xgi,xgj] at hT;subst hT;have hC:=nx hC hbw6;have HM:=xgv (HM.out.below hbw6);have HMV:=xgv (HMV.out.below hbw6);have ho:=ho.below hbw6;have T8:=T8.below hbw6;have T9:=T9.below hbw6;have hB:=nx hB hbw6;have bp:=bp.below hbw6;have lT8:=T8.lt;have lT9:=T9.lt;clear c1 c2 c3 c4 c5 c6 d1 d2 d3 d4 d5 d6;obtain ⟨d1,d2,d3,d4,d5,d6⟩:=T9.three;obtain ⟨p1,p2,-,-⟩:=bp.two;by_cases hRC : 0 < R/\0 < C
 ·obtain ⟨hR0,hC0⟩:=hRC
  obtain ⟨i,hi'⟩ : ∃i : Nat,i = p % R:=⟨_,rfl⟩;obtain ⟨j,hj'⟩ : ∃j : Nat,j = q % C:=⟨_,rfl⟩;have hi : i < R:=by rw [hi']; exact Nat.mod_lt _ hR0
  have hj : j < C:=by rw [hj']; exact Nat.mod_lt _ hC0
  have hpi : (p : Int) % (R : Int) = (i : Int):=by rw [hi']; rfl
  have hqj : (q : Int) % (C : Int) = (j : Int):=by rw [hj']; rfl
  have hzR : ¬ ((R : Int) = 0):=by omega
  have hzC : ¬ ((C : Int) = 0):=by omega
  have hwp : IntKind.i64.wrap (p : Int) = (p : Int):=IntWalk.i64_in _ oM;have hwq : IntKind.i64.wrap (q : Int) = (q : Int):=IntWalk.i64_in _ oM;clear hi' hj';go_upto_region 9 with (fail)
  rw [hpi,hqj];obtain ⟨g,b,rfl,hg,hbi,hbi2,o1,hno⟩:=ho.at_ (i:=i) oM;obtain ⟨xs,xa,xl,xc,e1,e2,-,-,hx⟩:=ho.cellAt hbi hj;obtain ⟨z,hz⟩ : ∃z,ent W i j = z:=⟨_,rfl⟩;rw [hz] at hx;have hzb : z.natAbs<=644972544:=by rw [<-hz]; exact HW2.out i hi j hj
  have HSZ : HidS (Sm z/\Sm k):=⟨BD_sm (bd90 (Nat.le_trans hzb dE)),BD_sm (bd90 (show k.natAbs<=2 ^ 90 from Nat.le_trans (show k.natAbs<=128 by omega) dE))⟩;have hwk : HidS (IntKind.i64.wrap k = k):=⟨IntWalk.i64_in _ oM⟩;obtain ⟨M',hM'⟩ : ∃M',setM W i j (z + k) = M':=⟨_,rfl⟩;have HSH : HidS (∀r ∈ M',∀z ∈ r,Sm z):=⟨by rw [<-hM']; exact sm_leM (setM_fits HFW.out hi hj) (setM_leM HFW.out HLEW.out hi hj oM) dE⟩;have HMM:=xgv hM';have hin : i < hn:=by omega
  have HNO:=xgv hno;clear hz hpi hqj hzR hzC hwp hwq hM' hno hzb;refine wp_region_headed 19 rfl (RI w6 (w6.heap.size) _ 51
    [VP 0 50 w5.heap.size 2,VSl 1 51 g hn hc,VN 2 52 i,VP 3 53 g i,VSl 4 54 b C C,VN 5 55 j,VP 6 56 w5.heap.size 2,VSl 7 57 g hn hc,VN 8 58 i,VP 9 59 g i,VSl 10 60 b C C,VN 11 61 j,VP 12 62 b (j * 2),E 13 63 (.agg #[.bool xs,.slice xa xl xc]),E 14 64 (.int .i8 k),VN 15 65 k,EI 16 66 (k),EI 17 67 (z + k),VP 18 68 b (j * 2)] [] []) kR RI.start (RI.fin kR ?fin2) ?steps2
  case steps2=>
   refine ⟨?_,?_,?_,?_,?_,?_,?_,?_,?_,?_,?_,?_,?_,?_,?_,?_,?_,?_,?_,trivial⟩ <;> (intro L T wS hL hd hcl hI K hK; try refine step_wanted rfl ?_)
   ·exact xgs (hI.k 9 rfl kR)
   ·have zt0:=hI.e mm0 (hd 0)
    have cc0:=hI.cell d3 oM nom; exact xgu
   ·exact xgs (hI.k 10 rfl kR)
   ·exact xgt (hI.e mm1 (hd 1)) (hI.e mm2 (hd 2))
   ·have zt3:=hI.e mm3 (hd 3)
    have cc0:=hI.cell o1 oM nom; exact xgu
   ·exact xgs (hI.k 11 rfl kR)
   ·exact xgs (hI.k 9 rfl kR)
   ·have zt6:=hI.e mm6 (hd 6)
    have cc0:=hI.cell d3 oM nom; exact xgu
   ·exact xgs (hI.k 10 rfl kR)
   ·exact xgt (hI.e mm7 (hd 7)) (hI.e mm8 (hd 8))
   ·have zt9:=hI.e mm9 (hd 9)
    have cc0:=hI.cell o1 oM nom; exact xgu
   ·exact xgs (hI.k 11 rfl kR)
   ·exact xgt (hI.e mm10 (hd 10)) (hI.e mm11 (hd 11))
   ·have zt12:=hI.e mm12 (hd 12)
    have cc0:=hI.cell e1 oM nom;have cc1:=hI.cell e2 oM nom; exact xgu
   ·exact xgs (hI.k 2 rfl kR)
   ·have zt14:=hI.e mm14 (hd 14)
    go_simp;exact hK _ _ (hI.y mm15 (congrArg (Value.int .i64) hwk.out))
   ·have zt15:=hI.e mm15 (hd 15)
    go_simp;refine (r1of_any k _ oM oM).mono ?_;exact xgo
   ·have zt13:=hI.e mm13 (hd 13)
    obtain ⟨v16,zt16,h16⟩:=hI.vi mm16 (hd 16);go_simp;refine (r1add_any _ _ z k _ (hx.ext hI.lext) h16 HSZ.out.1 HSZ.out.2).mono ?_;exact xgo
   ·exact xgt (hI.e mm4 (hd 4)) (hI.e mm5 (hd 5))
  intro w7 hlw7 hbw7 holdw7 T hT;simp only [Fin,E,EI,VP,VSl,VN,xgg,xgh,xgi,xgj] at hT;obtain ⟨vb16,hb16,vb17,hb17,rfl⟩:=hT;simp only [xgl,xgk];obtain ⟨pn,pa,pl,pc,px,rfl,hpx⟩:=id hb17;have HPX:=xgw hpx;have ho7:=ho.below hbw7;obtain ⟨sn,sa,sl,sc,y1,y2,y3,y4,-⟩:=ho7.cellAt hbi hj;obtain ⟨hset,hlx,-⟩:=ho7.set hbi hj hb17;rw [HMM.out] at hset;have hbN:=ho7.bases;have hmem:=xgd hbi;have hbge:=hbN b hmem;have hOP:=oz2 hlx;have HST:=xgv (And.intro hset hOP);have T8:=T8.below hbw7;have T9:=T9.below hbw7;have HM:=xgv (HM.out.below hbw7);have hB:=nx hB hbw7;clear hpx e1 e2 o1 d1 d2 d3 d4 d5 d6 hset hlx hOP hx;go_upto_region 10 with (fail)
  refine wp_world ?_;intro W8 hW8;obtain ⟨hset,hOP⟩:=HST.out;rw [<-hW8.out] at hset hOP;have HH : HidS (MatV W8 (.agg #[.int .i64 R,.int .i64 C,.slice (some ⟨g,0,none⟩) hn hc]) R C M'):=⟨⟨_,rfl,hset.rows⟩⟩;have hbl5:=hlts i b hbi;have hC8:=below_only (nx hC hbw7) (hOP.mono (Z':=fun k=>w4.heap.size<=k) fun k _ hk=>by rw [hk]; exact hbge) (xgf _) (nx hC hbw7).size;have T8:=T84.below hC8;have T9:=hOP.blk T9 oM;have HM:=xgv (HM4.out.below hC8);have hB:=nx hB4 hC8;have lT8:=T8.lt;have lT9:=T9.lt;clear hW8 HST y1 y2 y3 y4;obtain ⟨c1,c2,c3,c4,c5,c6⟩:=T8.three;go_upto_region 11 with (fail)
  refine wp_world ?_;intro W7 hW7;obtain ⟨hB7,T12,hs7⟩:=world1 hW7;have HH:=xgv (HH.out.below hB7);have HM:=xgv (HM.out.below hB7);have T9:=T9.below hB7;have hB:=nx hB hB7;obtain ⟨A',eA',hA'⟩:=HM.out;injection eA' with eA'
  simp only [Array.mk.injEq,List.cons.injEq,and_true,true_and] at eA';subst eA';have HRG : HidS (MatV W7 (.agg #[.int .i64 R,.int .i64 ((C : Int) + 1),.slice ro rn rc]) R ((C : Int) + 1) M):=⟨⟨_,rfl,hA'⟩⟩;obtain ⟨dH,hdH⟩ : ∃d,decide (IsHP R C M') = d:=⟨_,rfl⟩;obtain ⟨dR,hdR⟩ : ∃d,decide (IsHP R ((C : Int) + 1) M) = d:=⟨_,rfl⟩;have HDH:=xgv hdH;have HDR:=xgv hdR;clear hW7 c1 c2 c3 c4 c5 c6 hA' hdH hdR;obtain ⟨c1,c2,c3,c4,c5,c6⟩:=T9.three;obtain ⟨d1,d2,d3,d4,d5,d6⟩:=T12.three;refine wp_region_each rfl (RV W7 _ [E 0 77 (.bool true),E 1 78 (.bool true),E 2 79 (.agg #[.int .i64 R,.int .i64 C,.slice (some ⟨g,0,none⟩) hn hc]),E 3 80 (.bool dH),E 4 81 (.agg #[.int .i64 R,.int .i64 C,.slice (some ⟨g,0,none⟩) hn hc]),E 5 82 (.bool dH),E 6 83 (.bool true),E 7 84 (.bool true),E 8 85 (.bool true),E 9 86 (.agg #[.int .i64 R,.int .i64 ((C : Int) + 1),.slice ro rn rc]),E 10 87 (.bool dR),E 11 88 (.agg #[.int .i64 R,.int .i64 ((C : Int) + 1),.slice ro rn rc]),E 12 89 (.bool dR),E 13 90 (.bool true),E 14 91 (.bool true),E 15 6 (.bool true)]) kR RV.start (RV.fin kR ?fin3) ?steps3
  case steps3=>
   refine ⟨?_,?_,?_,?_,?_,?_,?_,?_,?_,?_,?_,?_,?_,?_,?_,?_,trivial⟩ <;> (intro L T wS hL hd hcl hI K hK; try refine step_wanted rfl ?_)
   ·exact xgs (hI.k 7 rfl kR)
   ·exact xgs (hI.e mm0 (hd 0))
   ·have zg:=hI.e mm1 (hd 1)
    refine step_wanted xgp ?_;have zt:=hI.k 9 rfl kR;have cc0:=hI.cell c1;have cc1:=hI.cell c2;have cc2:=hI.cell c3; exact xgu
   ·have zg:=hI.e mm1 (hd 1)
    refine step_wanted xgp ?_;have zt2:=hI.e mm2 (hd 2);go_simp;refine (hisT _ R C M' dH _ (HH.out.below hI.bel) HDH.out).mono ?_;rintro e wa ⟨v,rfl,hv,hba⟩;exact hK _ _ ((hI.world hba).y mm3 hv)
   ·have zg:=hI.e mm1 (hd 1)
    refine step_wanted xgp ?_;have zt:=hI.k 9 rfl kR;have cc0:=hI.cell c1;have cc1:=hI.cell c2;have cc2:=hI.cell c3; exact xgu
   ·have zg:=hI.e mm1 (hd 1)
    refine step_wanted xgp ?_;have zt4:=hI.e mm4 (hd 4);go_simp;refine (r12isD _ R C M' dH _ (HH.out.below hI.bel) HSH.out HDH.out).mono ?_;rintro e wa ⟨v,rfl,hv,hba⟩;exact hK _ _ ((hI.world hba).y mm5 hv)
   ·have zg:=hI.e mm1 (hd 1)
    refine step_wanted xgp ?_;exact xgt (hI.e mm3 (hd 3)) (hI.e mm5 (hd 5))
   ·exact xgt (hI.e mm1 (hd 1)) (hI.e mm6 (hd 6))
   ·exact xgs (hI.e mm7 (hd 7))
   ·have zg:=hI.e mm8 (hd 8)
    refine step_wanted xgp ?_;have zt:=hI.k 12 rfl kR;have cc0:=hI.cell d1;have cc1:=hI.cell d2;have cc2:=hI.cell d3; exact xgu
   ·have zg:=hI.e mm8 (hd 8)
    refine step_wanted xgp ?_;have zt9:=hI.e mm9 (hd 9);go_simp;refine (hisT _ R ((C : Int) + 1) M dR _ (HRG.out.below hI.bel) HDR.out).mono ?_;rintro e wa ⟨v,rfl,hv,hba⟩;exact hK _ _ ((hI.world hba).y mm10 hv)
   ·have zg:=hI.e mm8 (hd 8)
    refine step_wanted xgp ?_;have zt:=hI.k 12 rfl kR;have cc0:=hI.cell d1;have cc1:=hI.cell d2;have cc2:=hI.cell d3; exact xgu
   ·have zg:=hI.e mm8 (hd 8)
    refine step_wanted xgp ?_;have zt11:=hI.e mm11 (hd 11);go_simp;refine (r12isD _ R ((C : Int) + 1) M dR _ (HRG.out.below hI.bel) HSM.out HDR.out).mono ?_;rintro e wa ⟨v,rfl,hv,hba⟩;exact hK _ _ ((hI.world hba).y mm12 hv)
   ·have zg:=hI.e mm8 (hd 8)
    refine step_wanted xgp ?_;exact xgt (hI.e mm10 (hd 10)) (hI.e mm12 (hd 12))
   ·exact xgt (hI.e mm8 (hd 8)) (hI.e mm13 (hd 13))
   ·exact xgs (hI.e mm14 (hd 14))
  intro wf hbwf T hT;simp only [Fin,E,EI,VP,VSl,VN,xgg,xgh,xgi,xgj] at hT;subst hT;have hBF:=nx hB hbwf;go_wp2;go_ret;exact ⟨rfl,hBF⟩
 ·have HGO : HidS (∀K : Prop,(0 < R->¬ 0 < C->K)->(¬ 0 < R->K)->K):=⟨fun K h1 h2=>by
   by_cases hs : 0 < R
   ·exact h1 hs (fun hl=>hRC ⟨hs,hl⟩)
   ·exact h2 hs⟩
  have HH : HidS (MatV w6 (.agg #[.int .i64 R,.int .i64 C,.slice ho' hn hc]) R C W):=HMV;have HSH : HidS (∀r ∈ W,∀z ∈ r,Sm z):=⟨sm_leM HFW.out HLEW.out dE⟩;clear hRC;refine HGO.out _ ?_ ?_
  ·intro h1 h2
   go_upto_region 10 with (fail)
   clear d1 d2 d3 d4 d5 d6;obtain ⟨c1,c2,c3,c4,c5,c6⟩:=T8.three;go_upto_region 11 with (fail)
   refine wp_world ?_;intro W7 hW7;obtain ⟨hB7,T12,hs7⟩:=world1 hW7;have HH:=xgv (HH.out.below hB7);have HM:=xgv (HM.out.below hB7);have T9:=T9.below hB7;have hB:=nx hB hB7;obtain ⟨A',eA',hA'⟩:=HM.out;injection eA' with eA'
   simp only [Array.mk.injEq,List.cons.injEq,and_true,true_and] at eA';subst eA';have HRG : HidS (MatV W7 (.agg #[.int .i64 R,.int .i64 ((C : Int) + 1),.slice ro rn rc]) R ((C : Int) + 1) M):=⟨⟨_,rfl,hA'⟩⟩;obtain ⟨dH,hdH⟩ : ∃d,decide (IsHP R C W) = d:=⟨_,rfl⟩;obtain ⟨dR,hdR⟩ : ∃d,decide (IsHP R ((C : Int) + 1) M) = d:=⟨_,rfl⟩;have HDH:=xgv hdH;have HDR:=xgv hdR;clear hW7 c1 c2 c3 c4 c5 c6 hA' hdH hdR;obtain ⟨c1,c2,c3,c4,c5,c6⟩:=T9.three;obtain ⟨d1,d2,d3,d4,d5,d6⟩:=T12.three;refine wp_region_each rfl (RV W7 _ [E 0 77 (.bool true),E 1 78 (.bool true),E 2 79 (.agg #[.int .i64 R,.int .i64 C,.slice ho' hn hc]),E 3 80 (.bool dH),E 4 81 (.agg #[.int .i64 R,.int .i64 C,.slice ho' hn hc]),E 5 82 (.bool dH),E 6 83 (.bool true),E 7 84 (.bool true),E 8 85 (.bool true),E 9 86 (.agg #[.int .i64 R,.int .i64 ((C : Int) + 1),.slice ro rn rc]),E 10 87 (.bool dR),E 11 88 (.agg #[.int .i64 R,.int .i64 ((C : Int) + 1),.slice ro rn rc]),E 12 89 (.bool dR),E 13 90 (.bool true),E 14 91 (.bool true),E 15 6 (.bool true)]) kR RV.start (RV.fin kR ?fin4) ?steps4
   case steps4=>
    refine ⟨?_,?_,?_,?_,?_,?_,?_,?_,?_,?_,?_,?_,?_,?_,?_,?_,trivial⟩ <;> (intro L T wS hL hd hcl hI K hK; try refine step_wanted rfl ?_)
    ·exact xgs (hI.k 7 rfl kR)
    ·exact xgs (hI.e mm0 (hd 0))
    ·have zg:=hI.e mm1 (hd 1)
     refine step_wanted xgp ?_;have zt:=hI.k 9 rfl kR;have cc0:=hI.cell c1;have cc1:=hI.cell c2;have cc2:=hI.cell c3; exact xgu
    ·have zg:=hI.e mm1 (hd 1)
     refine step_wanted xgp ?_;have zt2:=hI.e mm2 (hd 2);go_simp;refine (hisT _ R C W dH _ (HH.out.below hI.bel) HDH.out).mono ?_;rintro e wa ⟨v,rfl,hv,hba⟩;exact hK _ _ ((hI.world hba).y mm3 hv)
    ·have zg:=hI.e mm1 (hd 1)
     refine step_wanted xgp ?_;have zt:=hI.k 9 rfl kR;have cc0:=hI.cell c1;have cc1:=hI.cell c2;have cc2:=hI.cell c3; exact xgu
    ·have zg:=hI.e mm1 (hd 1)
     refine step_wanted xgp ?_;have zt4:=hI.e mm4 (hd 4);go_simp;refine (r12isD _ R C W dH _ (HH.out.below hI.bel) HSH.out HDH.out).mono ?_;rintro e wa ⟨v,rfl,hv,hba⟩;exact hK _ _ ((hI.world hba).y mm5 hv)
    ·have zg:=hI.e mm1 (hd 1)
     refine step_wanted xgp ?_;exact xgt (hI.e mm3 (hd 3)) (hI.e mm5 (hd 5))
    ·exact xgt (hI.e mm1 (hd 1)) (hI.e mm6 (hd 6))
    ·exact xgs (hI.e mm7 (hd 7))
    ·have zg:=hI.e mm8 (hd 8)
     refine step_wanted xgp ?_;have zt:=hI.k 12 rfl kR;have cc0:=hI.cell d1;have cc1:=hI.cell d2;have cc2:=hI.cell d3; exact xgu
    ·have zg:=hI.e mm8 (hd 8)
     refine step_wanted xgp ?_;have zt9:=hI.e mm9 (hd 9);go_simp;refine (hisT _ R ((C : Int) + 1) M dR _ (HRG.out.below hI.bel) HDR.out).mono ?_;rintro e wa ⟨v,rfl,hv,hba⟩;exact hK _ _ ((hI.world hba).y mm10 hv)
    ·have zg:=hI.e mm8 (hd 8)
     refine step_wanted xgp ?_;have zt:=hI.k 12 rfl kR;have cc0:=hI.cell d1;have cc1:=hI.cell d2;have cc2:=hI.cell d3; exact xgu
    ·have zg:=hI.e mm8 (hd 8)
     refine step_wanted xgp ?_;have zt11:=hI.e mm11 (hd 11);go_simp;refine (r12isD _ R ((C : Int) + 1) M dR _ (HRG.out.below hI.bel) HSM.out HDR.out).mono ?_;rintro e wa ⟨v,rfl,hv,hba⟩;exact hK _ _ ((hI.world hba).y mm12 hv)
    ·have zg:=hI.e mm8 (hd 8)
     refine step_wanted xgp ?_;exact xgt (hI.e mm10 (hd 10)) (hI.e mm12 (hd 12))
    ·exact xgt (hI.e mm8 (hd 8)) (hI.e mm13 (hd 13))
    ·exact xgs (hI.e mm14 (hd 14))
   intro wf hbwf T hT;simp only [Fin,E,EI,VP,VSl,VN,xgg,xgh,xgi,xgj] at hT;subst hT;have hBF:=nx hB hbwf;go_wp2;go_ret;exact ⟨rfl,hBF⟩
  ·intro h1
   go_upto_region 10 with (fail)
   clear d1 d2 d3 d4 d5 d6;obtain ⟨c1,c2,c3,c4,c5,c6⟩:=T8.three;go_upto_region 11 with (fail)
   refine wp_world ?_;intro W7 hW7;obtain ⟨hB7,T12,hs7⟩:=world1 hW7;have HH:=xgv (HH.out.below hB7);have HM:=xgv (HM.out.below hB7);have T9:=T9.below hB7;have hB:=nx hB hB7;obtain ⟨A',eA',hA'⟩:=HM.out;injection eA' with eA'
   simp only [Array.mk.injEq,List.cons.injEq,and_true,true_and] at eA';subst eA';have HRG : HidS (MatV W7 (.agg #[.int .i64 R,.int .i64 ((C : Int) + 1),.slice ro rn rc]) R ((C : Int) + 1) M):=⟨⟨_,rfl,hA'⟩⟩;obtain ⟨dH,hdH⟩ : ∃d,decide (IsHP R C W) = d:=⟨_,rfl⟩;obtain ⟨dR,hdR⟩ : ∃d,decide (IsHP R ((C : Int) + 1) M) = d:=⟨_,rfl⟩;have HDH:=xgv hdH;have HDR:=xgv hdR;clear hW7 c1 c2 c3 c4 c5 c6 hA' hdH hdR;obtain ⟨c1,c2,c3,c4,c5,c6⟩:=T9.three;obtain ⟨d1,d2,d3,d4,d5,d6⟩:=T12.three;refine wp_region_each rfl (RV W7 _ [E 0 77 (.bool true),E 1 78 (.bool true),E 2 79 (.agg #[.int .i64 R,.int .i64 C,.slice ho' hn hc]),E 3 80 (.bool dH),E 4 81 (.agg #[.int .i64 R,.int .i64 C,.slice ho' hn hc]),E 5 82 (.bool dH),E 6 83 (.bool true),E 7 84 (.bool true),E 8 85 (.bool true),E 9 86 (.agg #[.int .i64 R,.int .i64 ((C : Int) + 1),.slice ro rn rc]),E 10 87 (.bool dR),E 11 88 (.agg #[.int .i64 R,.int .i64 ((C : Int) + 1),.slice ro rn rc]),E 12 89 (.bool dR),E 13 90 (.bool true),E 14 91 (.bool true),E 15 6 (.bool true)]) kR RV.start (RV.fin kR ?fin5) ?steps5
   case steps5=>
    refine ⟨?_,?_,?_,?_,?_,?_,?_,?_,?_,?_,?_,?_,?_,?_,?_,?_,trivial⟩ <;> (intro L T wS hL hd hcl hI K hK; try refine step_wanted rfl ?_)
    ·exact xgs (hI.k 7 rfl kR)
    ·exact xgs (hI.e mm0 (hd 0))
    ·have zg:=hI.e mm1 (hd 1)
     refine step_wanted xgp ?_;have zt:=hI.k 9 rfl kR;have cc0:=hI.cell c1;have cc1:=hI.cell c2;have cc2:=hI.cell c3; exact xgu
    ·have zg:=hI.e mm1 (hd 1)
     refine step_wanted xgp ?_;have zt2:=hI.e mm2 (hd 2);go_simp;refine (hisT _ R C W dH _ (HH.out.below hI.bel) HDH.out).mono ?_;rintro e wa ⟨v,rfl,hv,hba⟩;exact hK _ _ ((hI.world hba).y mm3 hv)
    ·have zg:=hI.e mm1 (hd 1)
     refine step_wanted xgp ?_;have zt:=hI.k 9 rfl kR;have cc0:=hI.cell c1;have cc1:=hI.cell c2;have cc2:=hI.cell c3; exact xgu
    ·have zg:=hI.e mm1 (hd 1)
     refine step_wanted xgp ?_;have zt4:=hI.e mm4 (hd 4);go_simp;refine (r12isD _ R C W dH _ (HH.out.below hI.bel) HSH.out HDH.out).mono ?_;rintro e wa ⟨v,rfl,hv,hba⟩;exact hK _ _ ((hI.world hba).y mm5 hv)
    ·have zg:=hI.e mm1 (hd 1)
     refine step_wanted xgp ?_;exact xgt (hI.e mm3 (hd 3)) (hI.e mm5 (hd 5))
    ·exact xgt (hI.e mm1 (hd 1)) (hI.e mm6 (hd 6))
    ·exact xgs (hI.e mm7 (hd 7))
    ·have zg:=hI.e mm8 (hd 8)
     refine step_wanted xgp ?_;have zt:=hI.k 12 rfl kR;have cc0:=hI.cell d1;have cc1:=hI.cell d2;have cc2:=hI.cell d3; exact xgu
    ·have zg:=hI.e mm8 (hd 8)
     refine step_wanted xgp ?_;have zt9:=hI.e mm9 (hd 9);go_simp;refine (hisT _ R ((C : Int) + 1) M dR _ (HRG.out.below hI.bel) HDR.out).mono ?_;rintro e wa ⟨v,rfl,hv,hba⟩;exact hK _ _ ((hI.world hba).y mm10 hv)
    ·have zg:=hI.e mm8 (hd 8)
     refine step_wanted xgp ?_;have zt:=hI.k 12 rfl kR;have cc0:=hI.cell d1;have cc1:=hI.cell d2;have cc2:=hI.cell d3; exact xgu
    ·have zg:=hI.e mm8 (hd 8)
     refine step_wanted xgp ?_;have zt11:=hI.e mm11 (hd 11);go_simp;refine (r12isD _ R ((C : Int) + 1) M dR _ (HRG.out.below hI.bel) HSM.out HDR.out).mono ?_;rintro e wa ⟨v,rfl,hv,hba⟩;exact hK _ _ ((hI.world hba).y mm12 hv)
    ·have zg:=hI.e mm8 (hd 8)
     refine step_wanted xgp ?_;exact xgt (hI.e mm10 (hd 10)) (hI.e mm12 (hd 12))
    ·exact xgt (hI.e mm8 (hd 8)) (hI.e mm13 (hd 13))
    ·exact xgs (hI.e mm14 (hd 14))
   intro wf hbwf T hT;simp only [Fin,E,EI,VP,VSl,VN,xgg,xgh,xgi,xgj] at hT;subst hT;have hBF:=nx hB hbwf;go_wp2;go_ret;exact ⟨rfl,hBF⟩
end Go.Proofs.YtgnmdddaiefooaaGreat

namespace Go.Proofs.YtgnmdddaiefooaaGreat
open Go.ChangeShapes Go.WideShapes Go.ChangeAt Go.RowKit
theorem hermiteIs_lifted (os : Os) (started : os.Started) (H : Type) (enc : TypeId × Value->H) :
  ReturnsInHanded {} Tryz.checked os 10 .any (Rows.hermiteIsSpec.pre6 enc Tryz.prog Tryz.f10 Rows.hermiteIsRow.domain false) (Rows.hermiteIsSpec.post enc Tryz.prog Tryz.f10 false true false false):=by
 refine returnsInHanded_of_change (C:=Tryz.checked) Tryz.own started kR Tryz.func10
  (ChangeSpec.witness6 (enc:=enc) (C:=Tryz.checked) false ⟨#[],#[.agg #[.int .u8 0,.int .u8 0,.slice none 0 0],.agg #[.int .u8 0,.int .u8 0],.int .i8 0],[]⟩ 8 kR kR kR kR) ?_
 intro W base args ds gs before hval0 hW hcnd _;have hval : ∀(j : Nat) t v,Tryz.f10.params[j]? = some t->args[j]? = some v->Value.okWide Tryz.prog W .any base t v:=hval0;have hW':=hW;obtain ⟨p,q,hA0,hV,rfl,hfz,hnd⟩:=hW;have hA : DataW.TrodAll enc Tryz.prog W 0 (fun _=>true) true Tryz.f10.params.toList args.toList ds p:=hA0;rw [Tryz.params10] at hA hval;obtain ⟨v0,v1,v2,d0,d1,d2,p0,p1,p2,rfl,rfl,rfl,h0,h1,h2⟩:=trodAll_three hA;obtain ⟨rfl,rfl⟩:=trodVars_none hV;obtain ⟨x,y,rfl,hx,hy⟩:=open_pair (hval 1 55 v1 rfl rfl) h1;have h2k:=h2;obtain ⟨c,rfl,rfl,rfl,wc⟩:=open_int Tryz.underlying73 (hval 2 73 v2 rfl rfl) h2;clear hA0 hval0;simp only [List.append_nil] at hW';have hlt0 : ∀x ∈ p0,x.block < W.heap.size:=fun x hx=>hW'.lt x (List.mem_append_left _ hx)
 have hlt1 : ∀x ∈ p1,x.block < W.heap.size:=fun x hx=>hW'.lt x (List.mem_append_right _ hx)
 have hc : -128<=c/\c<=127:=by
  simp [Lit.wf,IntKind.min,IntKind.max,IntKind.bits,IntKind.signed] at wc;omega
 obtain ⟨a,b,sv,ls,rfl,ha,hb,hI⟩:=open_raw (hval 0 24 v0 rfl rfl) h0 hlt0;obtain ⟨x,rfl⟩:=Int.eq_ofNat_of_zero_le hx.1;obtain ⟨y,rfl⟩:=Int.eq_ofNat_of_zero_le hy.1;refine (hermiteIs_any sv a b x y c ls W hI ha hb oM oM hc).mono fun e W' ⟨he,hB⟩=>?_
 subst he;refine ⟨_,rfl,_,_,_,[],p0 ++ (p1 ++ []),[],hW',?_,?_,rfl,hB.frame _,fun h=>by cases h⟩
 ·exact trodAll_mk1 (shut_bool Tryz.underlying4 true)
 ·exact trodAll_mk3 (Below.trod Tryz.laidOut kR (of_decide_eq_true kR) h0 hB hlt0) (Below.trod Tryz.laidOut kR (of_decide_eq_true kR) h1 hB hlt1) (shut_int Tryz.underlying73 wc)
theorem hermiteIs_holds : Rows.HermiteIsSaid:=
 OpenClaim.holds_of_wide 10 Tryz.f10 rfl rfl rfl rfl rfl rfl rfl ⟨rfl,rfl,rfl,rfl,rfl⟩ rfl rfl rfl rfl rfl kR Tryz.func10 kR
  (of_decide_eq_true kR) (by unfold Func.isWrapper; first | (rw [if_pos (by decide +kernel)]; kernel_rfl) | (rw [if_neg (by decide +kernel)]; exact ⟨rfl,rfl⟩))
  (fun os started H enc _=>hermiteIs_lifted os started H enc)
end Go.Proofs.YtgnmdddaiefooaaGreat
