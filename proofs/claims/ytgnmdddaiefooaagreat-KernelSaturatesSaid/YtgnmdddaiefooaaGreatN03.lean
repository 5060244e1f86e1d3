/- torsionlaw15.KernelSaturates: whatever the input, it returns true, and the input reads as it did. No conditions. -/
import Derived.Test.YtgnmdddaiefooaaGreatRows
import Derived.Test.YtgnmdddaiefooaaGreatK42
import Derived.Test.YtgnmdddaiefooaaGreatK51
import Derived.Test.YtgnmdddaiefooaaGreatN02
set_option linter.unusedVariables false
set_option linter.unusedSimpArgs false
set_option linter.unusedSectionVars false
set_option maxHeartbeats 16000000
set_option maxRecDepth 100000
namespace Go.Proofs.YtgnmdddaiefooaaGreat
open Go.RowKit
theorem r12hisT{C m:Nat}{S:Nat->Nat->Int}{L:(Nat->Int)->Prop}(v:Value)(w:World)(h:qX w v m C (genM m C S))(hb:HB C m S L)(hle:leM 644972544 m C S):
  Calls Tryz.prog 29 #[v] w fun e w'=>∃v,e= .returned v/\v= .bool true/\Below w.heap.size w w':=
 zPj v m C _ w h (zKN (h:=644972544) (e:=31) dE dE (zX _ _ _) (zBV hle)) (zGe.2 ⟨m,hb.hnf⟩)
theorem r12hrankT{C m:Nat}{S:Nat->Nat->Int}{L:(Nat->Int)->Prop}(v:Value)(w:World)(h:qX w v m C (genM m C S))(hb:HB C m S L):
  Calls Tryz.prog 30 #[v] w fun e w'=>∃v,e= .returned v/\v= .int .i64 m/\Below w.heap.size w w':=by
 obtain⟨c,hc⟩:=hb.hnf;exact zIV v m C m c _ w h (zX _ _ _) (hc.congr fun a ha b hb=>(qK ha hb).symm)
def SamV(m C:Nat)(S:Nat->Nat->Int)(w:World)(v:Value):Prop:=qX w v m C (genM m C S)
theorem lastsB_sam(m C:Nat)(S:Nat->Nat->Int):qT (SamV m C S):=fun _ _ _ e (h:qX _ _ _ _ _)=>h.below e
theorem satbasT{R C m:Nat}{A S:Nat->Nat->Int}(hs:zEp R C A m S)(hR:R<=4)(hC:C<=4)(hA:leM 9 R C A)(v:Value)(w:World)(h:zNi R C A w v):
  Calls Tryz.prog 21 #[v] w fun e w'=>∃v,e= .returned v/\SamV m C S w' v/\Below w.heap.size w w':=by
 obtain⟨r,c,H,hl,hm⟩:=h;have hr:r<=R:=hl.hnf.le;exact(zFl (h:=644972544) (e:=31) dE dE dE v _ r C w hm (zX _ _ _) oM hC (zBV (hl.le9 hR hA))).mono fun e w' ⟨v,h1,h2,h3⟩=>⟨v,h1,hs.want h2 hl.satL,h3⟩
theorem satagainT{R C m:Nat}{A S:Nat->Nat->Int}(hs:zEp R C A m S)(hC:C<=4)(hle:leM 644972544 m C S)(v:Value)(w:World)(h:qX w v m C (genM m C S)):
  Calls Tryz.prog 21 #[v] w fun e w'=>∃v,e= .returned v/\SamV m C S w' v/\Below w.heap.size w w':=by
 have hr:=hs.cols;exact(zFl (h:=644972544) (e:=31) dE dE dE v _ m C w h (zX _ _ _) oM hC (zBV hle)).mono fun e w' ⟨v,h1,h2,h3⟩=>⟨v,h1,hs.want h2 hs.again,h3⟩
theorem satmulT{R C m:Nat}{A S:Nat->Nat->Int}{ls:List Int}(hs:zEp R C A m S)(hR:R<=4)(hC:C<=4)(hA:leM 9 R C A)(v:Value)(w:World)(h:qX w v R C (genM R C (mulF (facF ls) A))):
  Calls Tryz.prog 21 #[v] w fun e w'=>∃v,e= .returned v/\SamV m C S w' v/\Below w.heap.size w w':=
 (zFl (h:=36) (e:=7) dE dE dE v _ R C w h (zX _ _ _) oM hC (zBV fun a ha b hb=>by
  show(A a b*facF ls a).natAbs<=36;rw[Int.natAbs_mul];exact Nat.mul_le_mul (hA a ha b hb) (facF_le ls a))).mono fun e w' ⟨v,h1,h2,h3⟩=>⟨v,h1,hs.want h2 fun x=>(satL_mulF (facF_ne ls) x).symm.trans (zBp.congr (fun a ha b hb=>(qK ha hb).symm) x),h3⟩
theorem satdT{R C m:Nat}{A S:Nat->Nat->Int}(hs:zEp R C A m S)(hC:C<=4)(hle:leM 644972544 m C S)(v:Value)(w:World)(h:qX w v m C (genM m C S)):
  Calls Tryz.prog 22 #[v] w fun e w'=>∃v,e= .returned v/\v= .bool true/\Below w.heap.size w w':=by
 have hr:=hs.cols;exact zEL (h:=644972544) (e:=31) dE dE dE v _ m C w h (zX _ _ _) oM hC (zBV hle) ⟨fun _=>hs.satd,fun _=>rfl⟩
theorem kernelSaturates_any(v lv:Value)(r c:Nat)(ls l1:List Int)(w:World)(h:I8V w v ls)(hl:I8V w lv l1)(hr:r<=255)(hc:c<=255):
  Calls Tryz.prog 5 #[.agg #[.int .u8 r,.int .u8 c,v],lv] w fun e w'=>e= .returned (.bool true)/\Below w.heap.size w w':=by
 obtain⟨ao,n,cap,rfl,-,-,-,-,-⟩:=id h;obtain⟨R,hR⟩:∃R:Nat,R=r%5:=⟨_,rfl⟩;obtain⟨C,hC⟩:∃C:Nat,C=c%5:=⟨_,rfl⟩;have hR4:R<=4:=by omega
 have hC4:C<=4:=by omega
 have HR:=xgw hR;have HC:=xgw hC;clear hR hC;obtain⟨M,hM⟩:∃M,genM R C (zJz C ls)=M:=⟨_,rfl⟩;have HMade:qL (∀w,I8V w (.slice ao n cap) ls->Calls Tryz.prog 14 #[.agg #[.int .u8 r,.int .u8 c,.slice ao n cap]] w fun e w'=>∃v,e= .returned v/\qX w' v R C M/\Below w.heap.size w w'):=⟨fun w h=>by
  rw[<-hM];exact zO7 _ r c ls w h hr hc R C HR.out HC.out⟩
 have HF:qL (yI R C M):=⟨by rw[<-hM];exact zX _ _ _⟩;have HA9:qL (leM 9 R C (ent M)):=⟨by rw[<-hM];exact zBV (zLV R C C ls)⟩;clear hM;obtain⟨lo,ln,lc,rfl,-,-,-,-,-⟩:=id hl;go_enter Tryz.func5,Tryz.ntmps5;go_upto_region 1 with(fail)
 refine zB ?_;intro W0 hW0;obtain⟨hB0,bx,hs0⟩:=zO hW0;clear hW0;go_wp2_with fail
 refine(zGr W0).mono ?_;rintro e w1 ⟨rfl,hb1⟩;have hB:=nx hB0 hb1;have bx:=bx.below hb1;obtain⟨c1,c2,c3,c4,c5,c6⟩:=bx.three;go_wp2_with fail
 refine(HMade.out w1 (h.below hB)).mono ?_;rintro e w2 ⟨va,rfl,hm,hb2⟩;obtain⟨ro,rn,rc,rfl⟩:=hm.agg;have hB:=nx hB hb2;clear c1 c2 c3 c4 c5 c6 bx;go_upto_region 3 with(fail)
 refine zB ?_;intro W3 hW3;obtain⟨hB3,T4,hs3⟩:=zO hW3;have HM:=xgv (hm.below hB3);have hB:=nx hB hB3;clear hW3 hm;obtain⟨c1,c2,c3,c4,c5,c6⟩:=T4.three;go_wp2_with fail
 refine(zFl (h:=9) (e:=5) dE dE dE _ M R C W3 HM.out HF.out oM hC4 HA9.out).mono ?_;rintro e w4 ⟨sv,rfl,⟨m,S,hsp,hms⟩,hb4⟩;obtain⟨s1,s2,s3,rfl⟩:=hms.agg;have HSP:=xgv hsp;have hmC:m<=C:=hsp.cols;have HSL:qL (leM 644972544 m C S):=⟨by
  have:=hsp.bound hR4 dE HA9.out;rwa[show 24*(8*9)^4=644972544 by decide]at this⟩
 have HM:=xgv (HM.out.below hb4);have T4:=T4.below hb4;have hB:=nx hB hb4;clear c1 c2 c3 c4 c5 c6 hsp;go_upto_region 4 with(fail)
 refine zB ?_;intro W5 hW5;obtain⟨hB5,T5,hs5⟩:=zO hW5;have HM:=xgv (HM.out.below hB5);have HMS:=xgv (hms.below hB5);have T4:=T4.below hB5;have hB:=nx hB hB5;clear hW5 hms;obtain⟨c1,c2,c3,c4,c5,c6⟩:=T4.three;obtain⟨d1,d2,d3,d4,d5,d6⟩:=T5.three;obtain⟨bs,hbs⟩:∃bs:Bool,decide ((m:Int)=(m:Int)/\(C:Int)=(C:Int)/\qS m C (genM m C S))=bs:=⟨_,rfl⟩;have HBS:qL (bs=true):=⟨by rw[<-hbs];exact decide_eq_true ⟨rfl,rfl,(zX _ _ _).valid⟩⟩;have HSZ:qL (∀(v:Value) (w:World),qX w v m C (genM m C S)->Calls Tryz.prog 28 #[v,.int .i64 m,.int .i64 C] w fun e w'=>e= .returned (.bool bs)/\Below w.heap.size w w'):=⟨fun v w h=>by rw[<-hbs];exact zOa v m C m C _ w h⟩;clear hbs;go_wp2_with fail
 refine(HSZ.out _ W5 HMS.out).mono ?_;rintro e w6 ⟨rfl,hb6⟩;rw[HBS.out];have HM:=xgv (HM.out.below hb6);have HMS:=xgv (HMS.out.below hb6);have T4:=T4.below hb6;have T5:=T5.below hb6;have hB:=nx hB hb6;clear c1 c2 c3 c4 c5 c6 d1 d2 d3 d4 d5 d6 HSZ HBS;obtain⟨c1,c2,c3,c4,c5,c6⟩:=T4.three;obtain⟨d1,d2,d3,d4,d5,d6⟩:=T5.three;go_upto_region 5 with(fail)
 refine zE rfl (RV w6 _ [E 0 23 (.bool true),E 1 24 (.bool false),E 2 25 (.bool false),E 3 26 (.agg #[.int .i64 m,.int .i64 C,.slice s1 s2 s3]),E 4 27 (.bool true),E 5 28 (.bool false),E 6 29 (.bool false),E 7 30 (.bool false),E 8 31 (.agg #[.int .i64 m,.int .i64 C,.slice s1 s2 s3]),VN 9 32 m,VP 10 33 w4.heap.size 0,VN 11 34 m,E 12 35 (.bool false),E 13 36 (.bool false),E 14 37 (.bool false),VP 15 38 w4.heap.size 0,VN 16 39 m,E 17 40 (.agg #[.int .i64 R,.int .i64 C,.slice ro rn rc]),VN 18 41 m,E 19 42 (.bool false),E 20 43 (.bool false)]) kR RV.start (RV.fin kR ?fin1) ?steps1
 case steps1=>
  refine⟨?_,?_,?_,?_,?_,?_,?_,?_,?_,?_,?_,?_,?_,?_,?_,?_,?_,?_,?_,?_,?_,trivial⟩<;>(intro L T wS hL hd hcl hI K hK;try refine zA rfl ?_)
  ·exact xgs (hI.k 8 rfl kR)
  ·exact xgs (hI.e mm0 (hd 0))
  ·exact xgs (hI.e mm1 (hd 1))
  ·have zg:=hI.e mm2 (hd 2)
   refine zA xgp ?_;have zt:=hI.k 7 rfl kR;have cc0:=hI.cell d1;have cc1:=hI.cell d2;have cc2:=hI.cell d3;exact xgu
  ·have zg:=hI.e mm2 (hd 2)
   refine zA xgp ?_;have zt3:=hI.e mm3 (hd 3);go_simp;refine(r12hisT _ _ (HMS.out.below hI.bel) HSP.out.1 HSL.out).mono ?_;rintro e wa ⟨v,rfl,hv,hba⟩;exact hK _ _ ((hI.world hba).y mm4 hv)
  ·have zg:=hI.e mm2 (hd 2)
   refine zA xgp ?_;exact xgs (hI.e mm4 (hd 4))
  ·exact xgt (hI.e mm2 (hd 2)) (hI.e mm5 (hd 5))
  ·exact xgs (hI.e mm6 (hd 6))
  ·have zg:=hI.e mm7 (hd 7)
   refine zA xgp ?_;have zt:=hI.k 7 rfl kR;have cc0:=hI.cell d1;have cc1:=hI.cell d2;have cc2:=hI.cell d3;exact xgu
  ·have zg:=hI.e mm7 (hd 7)
   refine zA xgp ?_;have zt8:=hI.e mm8 (hd 8);go_simp;refine(r12hrankT _ _ (HMS.out.below hI.bel) HSP.out.1).mono ?_;rintro e wa ⟨v,rfl,hv,hba⟩;exact hK _ _ ((hI.world hba).y mm9 hv)
  ·have zg:=hI.e mm7 (hd 7)
   refine zA xgp ?_;exact xgs (hI.k 7 rfl kR)
  ·have zg:=hI.e mm7 (hd 7)
   refine zA xgp ?_;have zt10:=hI.e yC (hd 10);have cc0:=hI.cell d1;exact xgu
  ·have zg:=hI.e mm7 (hd 7)
   refine zA xgp ?_;exact xgt (hI.e mm9 (hd 9)) (hI.e jQ (hd 11))
  ·exact xgt (hI.e mm7 (hd 7)) (hI.e zAY (hd 12))
  ·exact xgs (hI.e zBk (hd 13))
  ·have zg:=hI.e zCB (hd 14)
   refine zA xgp ?_;exact xgs (hI.k 7 rfl kR)
  ·have zg:=hI.e zCB (hd 14)
   refine zA xgp ?_;have zt15:=hI.e zCH (hd 15);have cc0:=hI.cell d1;exact xgu
  ·have zg:=hI.e zCB (hd 14)
   refine zA xgp ?_;have zt:=hI.k 6 rfl kR;have cc0:=hI.cell c1;have cc1:=hI.cell c2;have cc2:=hI.cell c3;exact xgu
  ·have zg:=hI.e zCB (hd 14)
   refine zA xgp ?_;have zt17:=hI.e zCb (hd 17);go_simp;refine(r15rankT _ M R C _ (HM.out.below hI.bel) HF.out hR4 hC4 HA9.out HSP.out).mono ?_;rintro e wa ⟨v,rfl,hv,hba⟩;exact hK _ _ ((hI.world hba).y zCw hv)
  ·have zg:=hI.e zCB (hd 14)
   refine zA xgp ?_;exact xgt (hI.e zCa (hd 16)) (hI.e zCw (hd 18))
  ·exact xgt (hI.e zCB (hd 14)) (hI.e zDf (hd 19))
 intro w7 hbw7 T hT;simp only[Fin,E,EI,VP,VSl,VN,xgg,xgh,xgi,xgj]at hT;subst hT;have hB7:=nx hB hbw7;have HM:=xgv (HM.out.below hbw7);have HMS:=xgv (HMS.out.below hbw7);have T4:=T4.below hbw7;have T5:=T5.below hbw7;clear hB c1 c2 c3 c4 c5 c6 d1 d2 d3 d4 d5 d6;have HCT:qL (∀i,i<R->∀(hv vv:Value) (w:World),qX w hv m C (genM m C S)->zBS w vv (qE C (ent M i))->Calls Tryz.prog 35 #[hv,vv] w fun e w'=>∃v,e= .returned v/\v= .bool true/\Below w.heap.size w w'):=⟨fun i hi hv vv w h1 h2=>by
  obtain⟨κ,hκ⟩:=HSP.out.1.hnf;exact containsT hv vv w h1 h2 hκ oM hC4 HSL.out (fun b hb=>Nat.le_trans (HA9.out i hi b hb) dE) ((HSP.out.1.iff _).1 (zBp.self hi))⟩
 go_wp2;go_loopw [9] (fun iv wr=>∃i:Nat,i<=R/\iv= .int .i64 i/\Below w7.heap.size w7 wr) (fun iv _=>R-(intOf iv).toNat)
 case atStart=>exact⟨0,by omega,rfl,Below.refl _ _⟩
 case round=>
  obtain⟨i,hi,rfl,hb⟩:=hrel;have T4':=T4.below hb;have T5':=T5.below hb;obtain⟨c1,c2,c3,c4,c5,c6⟩:=T4'.three;obtain⟨d1,d2,d3,d4,d5,d6⟩:=T5'.three;by_cases hlt:i<R
  ·obtain⟨Hv,eH,hrv⟩:=id (HM.out.below hb)
   injection eH with eH
   simp only[Array.mk.injEq,List.cons.injEq,and_true,true_and]at eH;subst eH;have hgl:=hrv.len;have hRn:R=rn:=by rw[<-hgl.1,HF.out.1]
   subst hRn;obtain⟨b,ra,rw',rc',zs,rfl,hbl1,hz,p1,hvr⟩:=hrv.row (k:=i) (by rw[HF.out.1];exact hlt);obtain rfl:=HF.out.row_eq hz;have HVR:=xgv hvr;clear hz hvr hgl hrv;go_upto_region 10 with(fail)
   refine zE rfl (RV wr _ [E 0 50 (.agg #[.int .i64 m,.int .i64 C,.slice s1 s2 s3]),VP 1 51 w2.heap.size 2,VSl 2 52 b R rc,VN 3 53 i,VP 4 54 b i,E 5 55 (.slice ra rw' rc'),E 6 56 (.bool true),E 7 57 (.bool false)]) kR RV.start (RV.fin kR ?fin2) ?steps2
   case steps2=>
    refine⟨?_,?_,?_,?_,?_,?_,?_,?_,trivial⟩<;>(intro L T wS hL hd hcl hI K hK;try refine zA rfl ?_)
    ·have zt:=hI.k 7 rfl kR
     have cc0:=hI.cell d1;have cc1:=hI.cell d2;have cc2:=hI.cell d3;exact xgu
    ·exact xgs (hI.k 6 rfl kR)
    ·have zt1:=hI.e mm1 (hd 1)
     have cc0:=hI.cell c3;exact xgu
    ·exact xgs (hI.k 9 rfl kR)
    ·exact xgt (hI.e mm2 (hd 2)) (hI.e mm3 (hd 3))
    ·have zt4:=hI.e mm4 (hd 4)
     have cc0:=hI.cell p1;exact xgu
    ·have zt0:=hI.e mm0 (hd 0)
     have zt5:=hI.e mm5 (hd 5);go_simp;refine(HCT.out i hlt _ _ _ (HMS.out.below (nx hb hI.bel)) (HVR.out.below hI.bel)).mono ?_;rintro e wa ⟨v,rfl,hv,hba⟩;exact hK _ _ ((hI.world hba).y mm6 hv)
    ·exact xgs (hI.e mm6 (hd 6))
   intro w9 hbw9 T hT;simp only[Fin,E,EI,VP,VSl,VN,xgg,xgh,xgi,xgj]at hT;subst hT;go_wp2;go_roundw
   case rel=>exact⟨i+1,by omega,by simp,nx hb hbw9⟩
   case measure=>simp[intOf];omega
  ·have hB:=nx hB7 hb
   have HMS:=xgv (HMS.out.below hb);have HM:=xgv (HM.out.below hb);clear T4 T5 HCT hB7;go_wp2_with fail
   refine(satagainT HSP.out hC4 HSL.out _ wr HMS.out).mono ?_;rintro e wA ⟨xv,rfl,hx,hbA⟩;obtain⟨x1,x2,x3,rfl⟩:=(show qX _ _ _ _ _ from hx).agg;have T4:=T4'.below hbA;have T5:=T5'.below hbA;have HM:=xgv (HM.out.below hbA);have HMS:=xgv (HMS.out.below hbA);have hB:=nx hB hbA;clear c1 c2 c3 c4 c5 c6 d1 d2 d3 d4 d5 d6 T4' T5';go_upto_region 13 with(fail)
   refine zB ?_;intro WB hWB;obtain⟨hBB,T10,hsB⟩:=zO hWB;have HX:=xgv ((show qX _ _ _ _ _ from hx).below hBB);have HM:=xgv (HM.out.below hBB);have HMS:=xgv (HMS.out.below hBB);have T4:=T4.below hBB;have T5:=T5.below hBB;have hB:=nx hB hBB;clear hWB hx;obtain⟨c1,c2,c3,c4,c5,c6⟩:=T4.three;go_wp2_with fail
   refine(multiplied_any _ _ R C M l1 WB HM.out HF.out (hl.below hB) oM oM (zKN (h:=9) (e:=5) dE dE HF.out HA9.out)).mono ?_;rintro e wC ⟨yv,bs',rfl,hy,hbC⟩;have hy:=hy.mat.1;clear c1 c2 c3 c4 c5 c6;go_wp2_with fail
   refine(satmulT HSP.out hR4 hC4 HA9.out _ wC hy).mono ?_;rintro e wD ⟨zv,rfl,hz,hbD⟩;obtain⟨z1,z2,z3,rfl⟩:=(show qX _ _ _ _ _ from hz).agg;have hbBD:=nx hbC hbD;have HX:=xgv (HX.out.below hbBD);have HM:=xgv (HM.out.below hbBD);have HMS:=xgv (HMS.out.below hbBD);have T4:=T4.below hbBD;have T5:=T5.below hbBD;have T10:=T10.below hbBD;have hB:=nx hB hbBD;clear hy hbC;go_upto_region 14 with(fail)
   refine zB ?_;intro WE hWE;obtain⟨hBE,T11,hsE⟩:=zO hWE;have HZ:=xgv ((show qX _ _ _ _ _ from hz).below hBE);have HX:=xgv (HX.out.below hBE);have HM:=xgv (HM.out.below hBE);have HMS:=xgv (HMS.out.below hBE);have T4:=T4.below hBE;have T5:=T5.below hBE;have T10:=T10.below hBE;have hB:=nx hB hBE;clear hWE hz;obtain⟨c1,c2,c3,c4,c5,c6⟩:=T4.three;obtain⟨d1,d2,d3,d4,d5,d6⟩:=T5.three;obtain⟨f1,f2,f3,f4,f5,f6⟩:=T10.three;obtain⟨g1,g2,g3,g4,g5,g6⟩:=T11.three;have hl1:=zFH R C (ent M);have hl2:=lastsB_sam m C S;refine zE rfl (RV WE _ [E 0 64 (.bool true),E 1 65 (.bool true),E 2 66 (.agg #[.int .i64 m,.int .i64 C,.slice x1 x2 x3]),E 3 67 (.agg #[.int .i64 m,.int .i64 C,.slice s1 s2 s3]),E 4 68 (.bool true),E 5 69 (.bool true),E 6 70 (.bool true),E 7 71 (.agg #[.int .i64 m,.int .i64 C,.slice z1 z2 z3]),E 8 72 (.agg #[.int .i64 m,.int .i64 C,.slice s1 s2 s3]),E 9 73 (.bool true),E 10 74 (.bool true),E 11 75 (.bool true),E 12 76 (.agg #[.int .i64 m,.int .i64 C,.slice s1 s2 s3]),E 13 77 (.bool true),E 14 78 (.bool true),E 15 79 (.bool true),E 16 80 (.agg #[.int .i64 R,.int .i64 C,.slice ro rn rc]),⟨17,81,zNi R C (ent M)⟩,⟨18,82,SamV m C S⟩,E 19 83 (.agg #[.int .i64 m,.int .i64 C,.slice s1 s2 s3]),E 20 84 (.bool true),E 21 85 (.bool true),E 22 4 (.bool true)]) kR RV.start (RV.fin kR ?fin3) ?steps3
   case steps3=>
    refine⟨?_,?_,?_,?_,?_,?_,?_,?_,?_,?_,?_,?_,?_,?_,?_,?_,?_,?_,?_,?_,?_,?_,?_,trivial⟩<;>(intro L T wS hL hd hcl hI K hK;try refine zA rfl ?_)
    ·exact xgs (hI.k 5 rfl kR)
    ·exact xgs (hI.e mm0 (hd 0))
    ·have zg:=hI.e mm1 (hd 1)
     refine zA xgp ?_;have zt:=hI.k 10 rfl kR;have cc0:=hI.cell f1;have cc1:=hI.cell f2;have cc2:=hI.cell f3;exact xgu
    ·have zg:=hI.e mm1 (hd 1)
     refine zA xgp ?_;have zt:=hI.k 7 rfl kR;have cc0:=hI.cell d1;have cc1:=hI.cell d2;have cc2:=hI.cell d3;exact xgu
    ·have zg:=hI.e mm1 (hd 1)
     refine zA xgp ?_;have zt2:=hI.e mm2 (hd 2);have zt3:=hI.e mm3 (hd 3);go_simp;refine(zHn _ _ m C _ _ (HX.out.below hI.bel) (HMS.out.below hI.bel)).mono ?_;rintro e wa ⟨v,rfl,hv,hba⟩;exact hK _ _ ((hI.world hba).y mm4 hv)
    ·exact xgt (hI.e mm1 (hd 1)) (hI.e mm4 (hd 4))
    ·exact xgs (hI.e mm5 (hd 5))
    ·have zg:=hI.e mm6 (hd 6)
     refine zA xgp ?_;have zt:=hI.k 11 rfl kR;have cc0:=hI.cell g1;have cc1:=hI.cell g2;have cc2:=hI.cell g3;exact xgu
    ·have zg:=hI.e mm6 (hd 6)
     refine zA xgp ?_;have zt:=hI.k 7 rfl kR;have cc0:=hI.cell d1;have cc1:=hI.cell d2;have cc2:=hI.cell d3;exact xgu
    ·have zg:=hI.e mm6 (hd 6)
     refine zA xgp ?_;have zt7:=hI.e mm7 (hd 7);have zt8:=hI.e mm8 (hd 8);go_simp;refine(zHn _ _ m C _ _ (HZ.out.below hI.bel) (HMS.out.below hI.bel)).mono ?_;rintro e wa ⟨v,rfl,hv,hba⟩;exact hK _ _ ((hI.world hba).y mm9 hv)
    ·exact xgt (hI.e mm6 (hd 6)) (hI.e mm9 (hd 9))
    ·exact xgs (hI.e yC (hd 10))
    ·have zg:=hI.e jQ (hd 11)
     refine zA xgp ?_;have zt:=hI.k 7 rfl kR;have cc0:=hI.cell d1;have cc1:=hI.cell d2;have cc2:=hI.cell d3;exact xgu
    ·have zg:=hI.e jQ (hd 11)
     refine zA xgp ?_;have zt12:=hI.e zAY (hd 12);go_simp;refine(satdT HSP.out hC4 HSL.out _ _ (HMS.out.below hI.bel)).mono ?_;rintro e wa ⟨v,rfl,hv,hba⟩;exact hK _ _ ((hI.world hba).y zBk hv)
    ·exact xgt (hI.e jQ (hd 11)) (hI.e zBk (hd 13))
    ·exact xgs (hI.e zCB (hd 14))
    ·have zg:=hI.e zCH (hd 15)
     refine zA xgp ?_;have zt:=hI.k 6 rfl kR;have cc0:=hI.cell c1;have cc1:=hI.cell c2;have cc2:=hI.cell c3;exact xgu
    ·have zg:=hI.e zCH (hd 15)
     refine zA xgp ?_;have zt16:=hI.e zCa (hd 16);go_simp;refine(zKk (h:=9) (e:=5) dE dE dE _ M R C _ (HM.out.below hI.bel) HF.out hR4 oM HA9.out).mono ?_;rintro e wa ⟨v,rfl,hv,hba⟩;exact hK _ _ ((hI.world hba).y zCb hv)
    ·have zg:=hI.e zCH (hd 15)
     refine zA xgp ?_;obtain⟨v17,zt17,h17⟩:=hI.v zCb (hd 17);go_simp;refine(satbasT HSP.out hR4 hC4 HA9.out _ _ h17).mono ?_;rintro e wa ⟨v,rfl,hv,hba⟩;exact hK _ _ ((hI.world hba).y zCw hv)
    ·have zg:=hI.e zCH (hd 15)
     refine zA xgp ?_;have zt:=hI.k 7 rfl kR;have cc0:=hI.cell d1;have cc1:=hI.cell d2;have cc2:=hI.cell d3;exact xgu
    ·have zg:=hI.e zCH (hd 15)
     refine zA xgp ?_;obtain⟨v18,zt18,h18⟩:=hI.v zCw (hd 18);have zt19:=hI.e zDf (hd 19);go_simp;refine(zHn _ _ m C _ _ h18 (HMS.out.below hI.bel)).mono ?_;rintro e wa ⟨v,rfl,hv,hba⟩;exact hK _ _ ((hI.world hba).y zET hv)
    ·exact xgt (hI.e zCH (hd 15)) (hI.e zET (hd 20))
    ·exact xgs (hI.e zEq (hd 21))
   intro wF hbwF T hT;simp only[Fin,E,EI,VP,VSl,VN,xgg,xgh,xgi,xgj]at hT;obtain⟨vd17,hd17,vd18,hd18,rfl⟩:=hT;have hBF:=nx hB hbwF;go_wp2;go_ret;exact⟨rfl,hBF⟩
end Go.Proofs.YtgnmdddaiefooaaGreat

namespace Go.Proofs.YtgnmdddaiefooaaGreat
open Go.ChangeShapes Go.WideShapes Go.ChangeAt Go.RowKit

theorem open_i8v{H:Type}{enc:TypeId × Value->H}{w:World}{b0:Nat}{r:Reach}{v:Value}{d:DataW H}{ps:List MemPlace}(hval:Value.okWide Tryz.prog w r b0 22 v)
  (h:DataW.Trod enc Tryz.prog w 0 (fun _=>true) true 22 v d ps) (hlt:∀x∈ps,x.block<w.heap.size):∃ls,I8V w v ls:=by
 obtain⟨a0,len0,cap0,rfl⟩:=okWide_slice Tryz.underlying22 hval;obtain⟨fuel,hf⟩:=h;obtain⟨ao,n,cap,ls,hk,hI⟩:=zNX hf hlt;simp[Value.cells]at hk;obtain⟨rfl,rfl,rfl⟩:=hk;exact⟨ls,hI⟩
theorem kernelSaturates_lifted(os:Os)(started:os.Started)(H:Type)(enc:TypeId × Value->H):
  ReturnsInHanded {} Tryz.checked os 5 .any (Rows.kernelSaturatesSpec.pre6 enc Tryz.prog Tryz.f5 Rows.kernelSaturatesRow.domain false) (Rows.kernelSaturatesSpec.post enc Tryz.prog Tryz.f5 false true false false):=by
 refine returnsInHanded_of_change (C:=Tryz.checked) Tryz.own started kR Tryz.func5
  (ChangeSpec.witness6 (enc:=enc) (C:=Tryz.checked) false ⟨#[],#[.agg #[.int .u8 0,.int .u8 0,.slice none 0 0],.slice none 0 0],[]⟩ 8 kR kR kR kR) ?_
 intro W base args ds gs before hval0 hW hcnd _;have hval:∀(j:Nat) t v,Tryz.f5.params[j]?=some t->args[j]?=some v->Value.okWide Tryz.prog W .any base t v:=hval0;have hW':=hW;obtain⟨p,q,hA0,hV,rfl,hfz,hnd⟩:=hW;have hA:DataW.TrodAll enc Tryz.prog W 0 (fun _=>true) true Tryz.f5.params.toList args.toList ds p:=hA0;rw[Tryz.params5]at hA hval;obtain⟨v0,v1,d0,d1,p0,p1,rfl,rfl,rfl,h0,h1⟩:=trodAll_two hA;obtain⟨rfl,rfl⟩:=trodVars_none hV;clear hA0 hval0;simp only[List.append_nil]at hW';have hlt0:∀x∈p0,x.block<W.heap.size:=fun x hx=>hW'.lt x (by simp[hx])
 have hlt1:∀x∈p1,x.block<W.heap.size:=fun x hx=>hW'.lt x (by simp[hx])
 obtain⟨a,b,sv,ls,rfl,ha,hb,hI⟩:=zLv (hval 0 24 v0 rfl rfl) h0 hlt0;obtain⟨ls1,hI1⟩:=open_i8v (hval 1 22 v1 rfl rfl) h1 hlt1;refine(kernelSaturates_any sv v1 a b ls ls1 W hI hI1 ha hb).mono fun e W' ⟨he,hB⟩=>?_
 subst he;refine⟨_,rfl,_,_,_,[],p0++p1,[],hW',?_,?_,rfl,hB.frame _,fun h=>by cases h⟩
 ·exact trodAll_mk1 (shut_bool Tryz.underlying4 true)
 ·exact trodAll_mk2 (Below.trod Tryz.laidOut kR (of_decide_eq_true kR) h0 hB hlt0) (Below.trod Tryz.laidOut kR (of_decide_eq_true kR) h1 hB hlt1)
theorem kernelSaturates_holds:Rows.KernelSaturatesSaid:=
 OpenClaim.holds_of_wide 5 Tryz.f5 rfl rfl rfl rfl rfl rfl rfl ⟨rfl,rfl,rfl,rfl,rfl⟩ rfl rfl rfl rfl rfl kR Tryz.func5 kR
  (of_decide_eq_true kR) (by unfold Func.isWrapper;first|(rw[if_pos (by decide+kernel)];kernel_rfl)|(rw[if_neg (by decide+kernel)];exact⟨rfl,rfl⟩))
  (fun os started H enc _=>kernelSaturates_lifted os started H enc)
end Go.Proofs.YtgnmdddaiefooaaGreat
