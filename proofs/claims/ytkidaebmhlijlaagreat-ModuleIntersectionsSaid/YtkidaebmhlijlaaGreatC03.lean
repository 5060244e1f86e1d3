/- torsionlaw16.ModuleIntersections: whatever the input, it returns true, and the input reads as it did. No conditions. -/
import Derived.Test.YtkidaebmhlijlaaGreatC01
set_option linter.unusedVariables false
set_option linter.unusedSimpArgs false
set_option linter.unusedSectionVars false
set_option maxHeartbeats 16000000
set_option maxRecDepth 100000
namespace Go.Proofs.YtkidaebmhlijlaaGreat
open Go.RowKit
theorem zFa(v1 v2 v3:Value)(c r1 r2 r3:Nat)(l1 l2 l3:List Int)(lv:Value)(ls:List Int)(w:World)(h1:I8V w v1 l1)(h2:I8V w v2 l2)(h3:I8V w v3 l3)(hl:I8V w lv ls)(hc:c<=255)(hr1:r1<=255)(hr2:r2<=255)(hr3:r3<=255):
  CPq 5 #[.agg #[.int .u8 c,.int .u8 r1,v1,.int .u8 r2,v2,.int .u8 r3,v3],lv] w fun e w'=>e= .returned (.bool true)/\BWq w w':=by
 obtain⟨o1,n1,k1,rfl,-⟩:=id h1;obtain⟨o2,n2,k2,rfl,-⟩:=id h2;obtain⟨o3,n3,k3,rfl,-⟩:=id h3;have H1:=xgv h1;have H2:=xgv h2;have H3:=xgv h3;obtain⟨C,hC⟩:∃C:Nat,C=c%4:=⟨_,rfl⟩;have hC3:C<=3:=oM;have HMade:jZ (∀w,I8V w (.slice o1 n1 k1) l1->I8V w (.slice o2 n2 k2) l2->I8V w (.slice o3 n3 k3) l3->CPq 13 #[.agg #[.int .u8 c,.int .u8 r1,.slice o1 n1 k1,.int .u8 r2,.slice o2 n2 k2,.int .u8 r3,.slice o3 n3 k3]] w fun e w'=>∃a b d,e= .returned (.tuple #[a,b,d])/\MX C 4 (zEj C r1 l1) w' a/\MX C 4 (zEj C r2 l2) w' b/\MX C 4 (zEj C r3 l3) w' d/\BWq w w'):=⟨fun w h1 h2 h3=>zIA _ _ _ c r1 r2 r3 l1 l2 l3 w h1 h2 h3 hc hr1 hr2 hr3 hC⟩;have DA:jZ (Gd C 33 (zEj C r1 l1)):=⟨zHa hC3 l1⟩;have DB:jZ (Gd C 33 (zEj C r2 l2)):=⟨zHa hC3 l2⟩;have DC:jZ (Gd C 33 (zEj C r3 l3)):=⟨zHa hC3 l3⟩;obtain⟨lo,ln,lk,rfl,-⟩:=id hl;have HLV:=xgv hl;clear hl;obtain⟨La,hLa⟩:∃La,zEj C r1 l1=La:=⟨_,rfl⟩;obtain⟨Lb,hLb⟩:∃Lb,zEj C r2 l2=Lb:=⟨_,rfl⟩;obtain⟨Lc,hLc⟩:∃Lc,zEj C r3 l3=Lc:=⟨_,rfl⟩;rw[hLa,hLb,hLc]at HMade;rw[hLa]at DA;rw[hLb]at DB;rw[hLc]at DC;have DM:jZ (Gd C 117 (zJJ La Lb)):=⟨by rw[<-hLa,<-hLb];exact zSL hC3 _ _⟩;clear hLa hLb hLc;obtain⟨ga,hga⟩:∃f:Bool,f=true↔∀x,Lc x->La x:=zH4 _;obtain⟨gb,hgb⟩:∃f:Bool,f=true↔∀x,Lc x->Lb x:=zH4 _;have GA:jZ (Ans ga (∀x,Lc x->La x)):=⟨hga⟩;have GB:jZ (Ans gb (∀x,Lc x->Lb x)):=⟨hgb⟩;have GM:jZ (Ans (ga && gb) (∀x,Lc x->zJJ La Lb x)):=⟨by unfold Ans;rw[zCR,hga,hgb];exact⟨fun h x hx=>⟨h.1 x hx,h.2 x hx⟩,fun h=>⟨fun x hx=>(h x hx).1,fun x hx=>(h x hx).2⟩⟩⟩;clear hga hgb;clear h1 h2 h3 hC;go_enter Tryz.func5,Tryz.ntmps5;go_upto_region 1 with(fail)
 refine zD ?_;intro W0 hW0;obtain⟨hB0,bx,hs0⟩:=qL hW0;clear hW0;go_wp2_with fail
 refine(zGJ W0).mono ?_;rintro e w1 ⟨rfl,hb1⟩;have hB:=nx hB0 hb1;have bx:=bx.below hb1;have f0:=bx.cell 0;have f1:=bx.cell 1;have f2:=bx.cell 2;have f3:=bx.cell 3;have f4:=bx.cell 4;have f5:=bx.cell 5;have f6:=bx.cell 6;go_wp2_with fail
 refine(HMade.out w1 (H1.out.below hB) (H2.out.below hB) (H3.out.below hB)).mono ?_;rintro e w2 ⟨va,vb,vc,rfl,ha,hb,hc,hb2⟩;have hB:=nx hB hb2;have bx:=bx.below hb2;obtain⟨aR,ao,an,az,rfl⟩:=ha.agg;obtain⟨bR,bo,bn,bz,rfl⟩:=hb.agg;obtain⟨cR,co,cn,cz,rfl⟩:=hc.agg;clear f0 f1 f2 f3 f4 f5 f6 HMade;go_upto_region 3 with(fail)
 refine zD ?_;intro W3 hW3;obtain⟨hB3,bA,bB,bC,hs3⟩:=zBk hW3;clear hW3;have XA:=xgv (ha.below hB3);have XB:=xgv (hb.below hB3);have XC:=xgv (hc.below hB3);clear ha hb hc;have hB:=nx hB hB3;have bx:=bx.below hB3;have c1:=bA.three;have d1:=bB.three;go_wp2_with fail
 refine(zSq (e:=33) (f:=117) _ _ W3 hC3 dE (XA.out.mono dE) (XB.out.mono dE) DA.out.bd DB.out.bd DM.out.bd dE).mono ?_;rintro e w11 ⟨v,rfl,hm,hb1⟩;have hB:=nx hB hb1;have bx:=bx.below hb1;have bA:=bA.below hb1;have XA:=xgv (XA.out.below hb1);have bB:=bB.below hb1;have XB:=xgv (XB.out.below hb1);have bC:=bC.below hb1;have XC:=xgv (XC.out.below hb1);obtain⟨w11R,w11o,w11n,w11k,rfl⟩:=hm.agg;have Xw11:=xgv hm;clear hm;clear c1 d1;go_upto_region 4 with(fail)
 refine zD ?_;intro W12 hW12;obtain⟨hb1,bM,hsW12⟩:=qL hW12;clear hW12;have hB:=nx hB hb1;have bx:=bx.below hb1;have bA:=bA.below hb1;have XA:=xgv (XA.out.below hb1);have bB:=bB.below hb1;have XB:=xgv (XB.out.below hb1);have bC:=bC.below hb1;have XC:=xgv (XC.out.below hb1);have Xw11:=xgv (Xw11.out.below hb1);have haR:aR<=3:=XA.out.open.elim fun _ h=>h.2.2.1
 have hbR:bR<=3:=XB.out.open.elim fun _ h=>h.2.2.1
 have hmR:w11R<=3:=zB Xw11.out.rows hC3;go_upto_region 4 with(fail)
 have hLF:=zMo C 123;have hLN:=zQU 60 W12.heap.size #[.slice none 0 0,.slice none 0 0,.slice none 0 0,.slice none 0 0];have c1:=bA.three;have d1:=bB.three;obtain⟨f1,f2,f3,f4,f5,f6⟩:=bM.three;have hL0:=zBG (qZ C (zHF C ls 0));have hL1:=zBG (qZ aR (zHF aR ls 0));have hL2:=zGW C 10 (La);have hL3:=zBG (qZ bR (zHF bR ls 0));have hL4:=zGW C 10 (Lb);have hL5:=zBG (qZ w11R (zHF w11R ls 0));have hL6:=zGW C 123 (zJJ La Lb);refine yP 24 [pcD 3 [] (fun w v=>zAv w v (qZ C (zHF C ls 0))),pcD 7 [] (fun w v=>zAv w v (qZ aR (zHF aR ls 0))),pcD 9 [7] (zNX C 10 (La)),pcD 13 [] (fun w v=>zAv w v (qZ bR (zHF bR ls 0))),pcD 15 [13] (zNX C 10 (Lb)),pcD 19 [] (fun w v=>zAv w v (qZ w11R (zHF w11R ls 0))),pcD 21 [19] (zNX C 123 (zJJ La Lb)),pcD 22 [3,9,15,21] (zRd C 123),pcD 23 [] (zZs 60 W12.heap.size #[.slice none 0 0,.slice none 0 0,.slice none 0 0,.slice none 0 0])] ?_;refine sRd ?_;refine sRc (fun wS hI Gk hG=>by go_simp;exact ck hG (zEU _ C ls _ (HLV.out.below (nx hB hI.bel)) oM)) (fun vy3 _=>?_);refine sRd ?_;refine sRc (fun wS hI Gk hG=>by go_simp;exact ck hG (zEU _ aR ls _ (HLV.out.below (nx hB hI.bel)) oM)) (fun vy7 _=>?_);refine sRd ?_;refine sRc (fun wS hI hy7 Gk hG=>by go_simp;exact ck hG (zZA (e:=4) (E:=10) _ (zHF aR ls 0) _ hC3 dE dE (XA.out.below hI.bel) hy7 (fun b=>zEz aR ls 0 b))) (fun vy9 _=>?_);refine sRd ?_;refine sRc (fun wS hI Gk hG=>by go_simp;exact ck hG (zEU _ bR ls _ (HLV.out.below (nx hB hI.bel)) oM)) (fun vy13 _=>?_);refine sRd ?_;refine sRc (fun wS hI hy13 Gk hG=>by go_simp;exact ck hG (zZA (e:=4) (E:=10) _ (zHF bR ls 0) _ hC3 dE dE (XB.out.below hI.bel) hy13 (fun b=>zEz bR ls 0 b))) (fun vy15 _=>?_);refine sRd ?_;refine sRc (fun wS hI Gk hG=>by go_simp;exact ck hG (zEU _ w11R ls _ (HLV.out.below (nx hB hI.bel)) oM)) (fun vy19 _=>?_);refine sRd ?_;refine sRc (fun wS hI hy19 Gk hG=>by go_simp;exact ck hG (zZA (e:=117) (E:=123) _ (zHF w11R ls 0) _ hC3 dE dE (BX.mx (Xw11.out.below hI.bel) hC3 DM.out.bd) hy19 (fun b=>zEz w11R ls 0 b))) (fun vy21 _=>?_);refine sRc (fun wS hI hy3 hy9 hy15 hy21 Gk hG=>?_) (fun vy22 _=>?_)
 ·have hq3:zAv wS vy3 (qZ C (zHF C ls 0)):=hy3
  obtain⟨s0,t0,u0,rfl,-⟩:=id hq3;obtain⟨⟨s9,t9,u9,rfl⟩,q9⟩:=zNX.some (E':=123) (show zNX C 10 (La) wS vy9 from hy9) dE;obtain⟨⟨s15,t15,u15,rfl⟩,q15⟩:=zNX.some (E':=123) (show zNX C 10 (Lb) wS vy15 from hy15) dE;obtain⟨⟨s21,t21,u21,rfl⟩,q21⟩:=zNX.some (E':=123) (show zNX C 123 (zJJ La Lb) wS vy21 from hy21) dE;go_simp;exact⟨hG _ _ (zRd.mk ⟨_,hq3,fun b _=>zB (zEz C ls 0 b) (by decide+kernel)⟩ q9 q15 q21),zA _ _⟩
 refine sRc (fun wS hI Gk hG=>?_) (fun vy23 _=>?_)
 ·go_simp
  exact⟨hG _ _ ⟨_,rfl,hI.bel.size,qX _ _ _⟩,(zA _ _).alloc (xgf _) _⟩
 refine sRe ?_;intro x13 hbx13 hy3 hy7 hy9 hy13 hy15 hy19 hy21 hy22 hy23;clear hL0 hL1 hL2 hL3 hL4 hL5 hL6;clear c1 d1 f1 f2 f3 f4 f5 f6;obtain⟨g1,rfl,hg1,T1⟩:=hy23;obtain⟨so0,so1,so2,so3,sn0,sn1,sn2,sn3,sk0,sk1,sk2,sk3,rfl,hv4⟩:=hy22;have z0:=T1.cell 0;have z1:=T1.cell 1;have z2:=T1.cell 2;have z3:=T1.cell 3;have z4:=T1.frozen 0;have z5:=T1.frozen 1;have z6:=T1.frozen 2;have z7:=T1.frozen 3;have HV4:=xgv hv4;clear hLF hLN hv4 hy3 hy7 hy9 hy13 hy15 hy19 hy21;go_upto_region 5 with(fail)
 refine zD ?_;intro W5 hW5;have hbN:BWq W12 W5:=by
  rw[hW5.out];exact yJ (yJ (yJ (yJ hbx13 hg1 0 _) hg1 1 _) hg1 2 _) hg1 3 _
 have bV:Blk W5 g1 60 #[.slice so0 sn0 sk0,.slice so1 sn1 sk1,.slice so2 sn2 sk2,.slice so3 sn3 sk3]:=by
  rw[hW5.out];simpa using(((T1.set_ 0 (.slice so0 sn0 sk0)).set_ 1 (.slice so1 sn1 sk1)).set_ 2 (.slice so2 sn2 sk2)).set_ 3 (.slice so3 sn3 sk3)
 have HV:jZ (∀s∈ [Value.slice so0 sn0 sk0,Value.slice so1 sn1 sk1,Value.slice so2 sn2 sk2,Value.slice so3 sn3 sk3],∃y:Nat->Int,zAv W5 s (qZ C y)/\∀b,b<C->(y b).natAbs<=2^123):=⟨fun s hs=>by
  obtain⟨y,h1,h2⟩:=HV4.out s hs;refine⟨y,?_,h2⟩;rw[hW5.out];exact h1.off4 T1 dE dE _ _ _ _⟩
 clear z0 z1 z2 z3 z4 z5 z6 z7 T1 HV4 hW5 hg1 hbx13;have hB:=nx hB hbN;have bx:=bx.below hbN;have bA:=bA.below hbN;have XA:=xgv (XA.out.below hbN);have bB:=bB.below hbN;have XB:=xgv (XB.out.below hbN);have bC:=bC.below hbN;have XC:=xgv (XC.out.below hbN);have Xw11:=xgv (Xw11.out.below hbN);have bM:=bM.below hbN;clear hbN;go_wp2;go_loopw [11] (fun iv wr=>∃i:Nat,i<=4/\iv= .int .i64 i/\BWq w wr/\BWq W5 wr) (fun iv _=>4-(intOf iv).toNat)
 case atStart=>exact⟨0,oM,rfl,hB,zA _ _⟩
 obtain⟨i,hi,rfl,hB,hL⟩:=hrel;have bx:=bx.below hL;have bA:=bA.below hL;have XA:=xgv (XA.out.below hL);have bB:=bB.below hL;have XB:=xgv (XB.out.below hL);have bC:=bC.below hL;have XC:=xgv (XC.out.below hL);have Xw11:=xgv (Xw11.out.below hL);have bM:=bM.below hL;have bV:=bV.below hL;by_cases hlt:i<4
 ·obtain⟨vo,vn,vk,y,hcell,hvy,hyb⟩:∃o n k y,wr.cell? ⟨g1,i,none⟩=some (.slice o n k)/\zAv wr (.slice o n k) (qZ C y)/\∀b,b<C->(y b).natAbs<=2^123:=by
   rcases(by omega:i=0∨i=1∨i=2∨i=3)with rfl|rfl|rfl|rfl
   exact(HV.out _ sI).elim fun y h=>⟨_,_,_,y,bV.cell 0,h.1.below hL,h.2⟩
   exact(HV.out _ sI).elim fun y h=>⟨_,_,_,y,bV.cell 1,h.1.below hL,h.2⟩
   exact(HV.out _ sI).elim fun y h=>⟨_,_,_,y,bV.cell 2,h.1.below hL,h.2⟩
   exact(HV.out _ sI).elim fun y h=>⟨_,_,_,y,bV.cell 3,h.1.below hL,h.2⟩
  have HVY:=xgv hvy;have HYB:=xgv hyb;obtain⟨fa,hfa⟩:∃f:Bool,f=true↔La y:=zH4 _;obtain⟨fb,hfb⟩:∃f:Bool,f=true↔Lb y:=zH4 _;have FA:jZ (Ans fa (La y)):=⟨hfa⟩;have FB:jZ (Ans fb (Lb y)):=⟨hfb⟩;have FM:jZ (Ans (fa && fb) (zJJ La Lb y)):=⟨by unfold Ans;rw[zCR,hfa,hfb];exact zAV⟩;clear hfa hfb hvy hyb;rcases fa with _|_
  ·
   go_upto_region 8 with(fail)
   have c1:=bM.three;have d1:=bA.three;refine zBl [pcD 4 [] (fun _ v=>v= .bool false),pcD 9 [] (fun _ v=>v= .bool false)] ?_;refine sRd ?_;refine sRc (fun wS hI Gk hG=>?_) (fun _ hv=>?_)
   ·go_simp
    refine(zDd (e:=123) _ _ y _ hC3 dE ((BX.mx (Xw11.out.below hI.bel) hC3 DM.out.bd).mono dE) (HVY.out.below hI.bel) (DM.out.mono dE).bd HYB.out (ans:=false) FM.out).mono ?_;rintro e wa ⟨v,rfl,hv,hba⟩;exact⟨_,rfl,hG _ _ hv,hba⟩
   obtain⟨_,-,rfl⟩:=hv;refine sRd ?_;refine sRc (fun wS hI Gk hG=>?_) (fun _ hv=>?_)
   ·go_simp
    refine(zDd (e:=123) _ _ y _ hC3 dE ((XA.out.below hI.bel).mono dE) (HVY.out.below hI.bel) (DA.out.mono dE).bd HYB.out (ans:=false) FA.out).mono ?_;rintro e wa ⟨v,rfl,hv,hba⟩;exact⟨_,rfl,hG _ _ hv,hba⟩
   obtain⟨_,-,rfl⟩:=hv;refine sRd ?_;refine sRe ?_;intro x14 hbx14 _ _;clear c1 d1;have hB:=nx hB hbx14;have bx:=bx.below hbx14;have bA:=bA.below hbx14;have XA:=xgv (XA.out.below hbx14);have bB:=bB.below hbx14;have XB:=xgv (XB.out.below hbx14);have bC:=bC.below hbx14;have XC:=xgv (XC.out.below hbx14);have Xw11:=xgv (Xw11.out.below hbx14);have bM:=bM.below hbx14;have bV:=bV.below hbx14;go_wp2;go_roundw
   case rel=>exact⟨i+1,oM,by simp,hB,nx hL hbx14⟩
   case measure=>exact meq
  go_upto_region 8 with(fail)
  have c1:=bM.three;have d1:=bA.three;obtain⟨f1,f2,f3,f4,f5,f6⟩:=bB.three;refine zBl [pcD 4 [] (fun _ v=>v= .bool fb),pcD 9 [] (fun _ v=>v= .bool true),pcD 15 [] (fun _ v=>v= .bool fb)] ?_;refine sRd ?_;refine sRc (fun wS hI Gk hG=>?_) (fun _ hv=>?_)
  ·go_simp
   refine(zDd (e:=123) _ _ y _ hC3 dE ((BX.mx (Xw11.out.below hI.bel) hC3 DM.out.bd).mono dE) (HVY.out.below hI.bel) (DM.out.mono dE).bd HYB.out (ans:=fb) FM.out).mono ?_;rintro e wa ⟨v,rfl,hv,hba⟩;exact⟨_,rfl,hG _ _ hv,hba⟩
  obtain⟨_,-,rfl⟩:=hv;refine sRd ?_;refine sRc (fun wS hI Gk hG=>?_) (fun _ hv=>?_)
  ·go_simp
   refine(zDd (e:=123) _ _ y _ hC3 dE ((XA.out.below hI.bel).mono dE) (HVY.out.below hI.bel) (DA.out.mono dE).bd HYB.out (ans:=true) FA.out).mono ?_;rintro e wa ⟨v,rfl,hv,hba⟩;exact⟨_,rfl,hG _ _ hv,hba⟩
  obtain⟨_,-,rfl⟩:=hv;refine sRd ?_;refine sRc (fun wS hI Gk hG=>?_) (fun _ hv=>?_)
  ·go_simp
   refine(zDd (e:=123) _ _ y _ hC3 dE ((XB.out.below hI.bel).mono dE) (HVY.out.below hI.bel) (DB.out.mono dE).bd HYB.out (ans:=fb) FB.out).mono ?_;rintro e wa ⟨v,rfl,hv,hba⟩;exact⟨_,rfl,hG _ _ hv,hba⟩
  obtain⟨_,-,rfl⟩:=hv;refine sRd ?_;refine sRe ?_;intro x15 hbx15 _ _ _;clear c1 d1 f1 f2 f3 f4 f5 f6;have hB:=nx hB hbx15;have bx:=bx.below hbx15;have bA:=bA.below hbx15;have XA:=xgv (XA.out.below hbx15);have bB:=bB.below hbx15;have XB:=xgv (XB.out.below hbx15);have bC:=bC.below hbx15;have XC:=xgv (XC.out.below hbx15);have Xw11:=xgv (Xw11.out.below hbx15);have bM:=bM.below hbx15;have bV:=bV.below hbx15;go_wp2;go_roundw
  case rel=>exact⟨i+1,oM,by simp,hB,nx hL hbx15⟩
  case measure=>exact meq
 obtain rfl:i=4:=oM;rcases ga with _|_
 ·
  go_upto_region 10 with(fail)
  have c1:=bM.three;have d1:=bA.three;obtain⟨f1,f2,f3,f4,f5,f6⟩:=bB.three;obtain⟨g1,g2,g3,g4,g5,g6⟩:=bC.three;refine zBl [pcD 2 [] (fun _ v=>v= .bool true),pcD 6 [] (fun _ v=>v= .bool true),pcD 11 [] (fun _ v=>v= .bool false),pcD 14 [] (fun _ v=>v= .bool false)] ?_;refine sRd ?_;refine sRc (fun wS hI Gk hG=>?_) (fun _ hv=>?_)
  ·go_simp
   refine(zEg (e:=117) _ _ _ hC3 dE (BX.mx (Xw11.out.below hI.bel) hC3 DM.out.bd) ((XA.out.below hI.bel).mono dE) (DA.out.mono dE).bd (ans:=true) ⟨fun _=>fun _ h=>h.1,fun _=>rfl⟩).mono ?_;rintro e wa ⟨v,rfl,hv,hba⟩;exact⟨_,rfl,hG _ _ hv,hba⟩
  obtain⟨_,-,rfl⟩:=hv;refine sRd ?_;refine sRc (fun wS hI Gk hG=>?_) (fun _ hv=>?_)
  ·go_simp
   refine(zEg (e:=117) _ _ _ hC3 dE (BX.mx (Xw11.out.below hI.bel) hC3 DM.out.bd) ((XB.out.below hI.bel).mono dE) (DB.out.mono dE).bd (ans:=true) ⟨fun _=>fun _ h=>h.2,fun _=>rfl⟩).mono ?_;rintro e wa ⟨v,rfl,hv,hba⟩;exact⟨_,rfl,hG _ _ hv,hba⟩
  obtain⟨_,-,rfl⟩:=hv;refine sRd ?_;refine sRc (fun wS hI Gk hG=>?_) (fun _ hv=>?_)
  ·go_simp
   refine(zEg (e:=117) _ _ _ hC3 dE ((XC.out.below hI.bel).mono dE) (BX.mx (Xw11.out.below hI.bel) hC3 DM.out.bd) DM.out.bd (ans:=false) GM.out).mono ?_;rintro e wa ⟨v,rfl,hv,hba⟩;exact⟨_,rfl,hG _ _ hv,hba⟩
  obtain⟨_,-,rfl⟩:=hv;refine sRd ?_;refine sRc (fun wS hI Gk hG=>?_) (fun _ hv=>?_)
  ·go_simp
   refine(zEg (e:=33) _ _ _ hC3 dE ((XC.out.below hI.bel).mono dE) ((XA.out.below hI.bel).mono dE) DA.out.bd (ans:=false) GA.out).mono ?_;rintro e wa ⟨v,rfl,hv,hba⟩;exact⟨_,rfl,hG _ _ hv,hba⟩
  obtain⟨_,-,rfl⟩:=hv;refine sRd ?_;refine sRe ?_;intro x16 hbx16 _ _ _ _;clear c1 d1 f1 f2 f3 f4 f5 f6 g1 g2 g3 g4 g5 g6;have hB:=nx hB hbx16;have bx:=bx.below hbx16;have bA:=bA.below hbx16;have XA:=xgv (XA.out.below hbx16);have bB:=bB.below hbx16;have XB:=xgv (XB.out.below hbx16);have bC:=bC.below hbx16;have XC:=xgv (XC.out.below hbx16);have Xw11:=xgv (Xw11.out.below hbx16);have bM:=bM.below hbx16;have bV:=bV.below hbx16;go_wp2;go_ret;exact⟨rfl,hB⟩
 go_upto_region 10 with(fail)
 have c1:=bM.three;have d1:=bA.three;obtain⟨f1,f2,f3,f4,f5,f6⟩:=bB.three;obtain⟨g1,g2,g3,g4,g5,g6⟩:=bC.three;refine zBl [pcD 2 [] (fun _ v=>v= .bool true),pcD 6 [] (fun _ v=>v= .bool true),pcD 11 [] (fun _ v=>v= .bool gb),pcD 14 [] (fun _ v=>v= .bool true),pcD 18 [] (fun _ v=>v= .bool gb)] ?_;refine sRd ?_;refine sRc (fun wS hI Gk hG=>?_) (fun _ hv=>?_)
 ·go_simp
  refine(zEg (e:=117) _ _ _ hC3 dE (BX.mx (Xw11.out.below hI.bel) hC3 DM.out.bd) ((XA.out.below hI.bel).mono dE) (DA.out.mono dE).bd (ans:=true) ⟨fun _=>fun _ h=>h.1,fun _=>rfl⟩).mono ?_;rintro e wa ⟨v,rfl,hv,hba⟩;exact⟨_,rfl,hG _ _ hv,hba⟩
 obtain⟨_,-,rfl⟩:=hv;refine sRd ?_;refine sRc (fun wS hI Gk hG=>?_) (fun _ hv=>?_)
 ·go_simp
  refine(zEg (e:=117) _ _ _ hC3 dE (BX.mx (Xw11.out.below hI.bel) hC3 DM.out.bd) ((XB.out.below hI.bel).mono dE) (DB.out.mono dE).bd (ans:=true) ⟨fun _=>fun _ h=>h.2,fun _=>rfl⟩).mono ?_;rintro e wa ⟨v,rfl,hv,hba⟩;exact⟨_,rfl,hG _ _ hv,hba⟩
 obtain⟨_,-,rfl⟩:=hv;refine sRd ?_;refine sRc (fun wS hI Gk hG=>?_) (fun _ hv=>?_)
 ·go_simp
  refine(zEg (e:=117) _ _ _ hC3 dE ((XC.out.below hI.bel).mono dE) (BX.mx (Xw11.out.below hI.bel) hC3 DM.out.bd) DM.out.bd (ans:=gb) GM.out).mono ?_;rintro e wa ⟨v,rfl,hv,hba⟩;exact⟨_,rfl,hG _ _ hv,hba⟩
 obtain⟨_,-,rfl⟩:=hv;refine sRd ?_;refine sRc (fun wS hI Gk hG=>?_) (fun _ hv=>?_)
 ·go_simp
  refine(zEg (e:=33) _ _ _ hC3 dE ((XC.out.below hI.bel).mono dE) ((XA.out.below hI.bel).mono dE) DA.out.bd (ans:=true) GA.out).mono ?_;rintro e wa ⟨v,rfl,hv,hba⟩;exact⟨_,rfl,hG _ _ hv,hba⟩
 obtain⟨_,-,rfl⟩:=hv;refine sRd ?_;refine sRc (fun wS hI Gk hG=>?_) (fun _ hv=>?_)
 ·go_simp
  refine(zEg (e:=33) _ _ _ hC3 dE ((XC.out.below hI.bel).mono dE) ((XB.out.below hI.bel).mono dE) DB.out.bd (ans:=gb) GB.out).mono ?_;rintro e wa ⟨v,rfl,hv,hba⟩;exact⟨_,rfl,hG _ _ hv,hba⟩
 obtain⟨_,-,rfl⟩:=hv;refine sRd ?_;refine sRe ?_;intro x17 hbx17 _ _ _ _ _;clear c1 d1 f1 f2 f3 f4 f5 f6 g1 g2 g3 g4 g5 g6;have hB:=nx hB hbx17;have bx:=bx.below hbx17;have bA:=bA.below hbx17;have XA:=xgv (XA.out.below hbx17);have bB:=bB.below hbx17;have XB:=xgv (XB.out.below hbx17);have bC:=bC.below hbx17;have XC:=xgv (XC.out.below hbx17);have Xw11:=xgv (Xw11.out.below hbx17);have bM:=bM.below hbx17;have bV:=bV.below hbx17;go_wp2;go_ret;exact⟨rfl,hB⟩
end Go.Proofs.YtkidaebmhlijlaaGreat

namespace Go.Proofs.YtkidaebmhlijlaaGreat
open Go.ChangeShapes Go.WideShapes Go.ChangeAt Go.RowKit
theorem zEl(os:Os)(started:os.Started)(H:Type)(enc:TypeId × Value->H):
  ReturnsInHanded {} Tryz.checked os 5 .any (Rows.moduleIntersectionsSpec.pre6 enc Tryz.prog Tryz.f5 Rows.moduleIntersectionsRow.domain false) (Rows.moduleIntersectionsSpec.post enc Tryz.prog Tryz.f5 false true false false):=by
 refine returnsInHanded_of_change (C:=Tryz.checked) Tryz.own started kR Tryz.func5
  (ChangeSpec.witness6 (enc:=enc) (C:=Tryz.checked) false ⟨#[],#[.agg #[.int .u8 0,.int .u8 0,.slice none 0 0,.int .u8 0,.slice none 0 0,.int .u8 0,.slice none 0 0],.slice none 0 0],[]⟩ 8 kR kR kR kR) ?_
 intro W base args ds gs before hval0 hW hcnd _;have hval:∀(j:Nat) t v,Tryz.f5.params[j]?=some t->args[j]?=some v->Value.okWide Tryz.prog W .any base t v:=hval0;have hW':=hW;obtain⟨p,q,hA0,hV,rfl,hfz,hnd⟩:=hW;have hA:DataW.TrodAll enc Tryz.prog W 0 (fun _=>true) true Tryz.f5.params.toList args.toList ds p:=hA0;rw[Tryz.params5]at hA hval;obtain⟨v0,v1,d0,d1,p0,p1,rfl,rfl,rfl,h0,h1⟩:=trodAll_two hA;obtain⟨rfl,rfl⟩:=trodVars_none hV;clear hA0 hval0;simp only[List.append_nil]at hW';have hlt0:∀x∈p0,x.block<W.heap.size:=fun x hx=>hW'.lt x (by simp[hx])
 have hlt1:∀x∈p1,x.block<W.heap.size:=fun x hx=>hW'.lt x (by simp[hx])
 obtain⟨c,r1,r2,r3,u1,u2,u3,l1,l2,l3,rfl,hc,hr1,hr2,hr3,I1,I2,I3⟩:=zHN (hval 0 26 v0 rfl rfl) h0 hlt0;obtain⟨ls1,hI1⟩:=zPU (hval 1 22 v1 rfl rfl) h1 hlt1;refine(zFa u1 u2 u3 c r1 r2 r3 l1 l2 l3 v1 ls1 W I1 I2 I3 hI1 hc hr1 hr2 hr3).mono fun e W' ⟨he,hB⟩=>?_
 subst he;refine⟨_,rfl,_,_,_,[],p0++p1,[],hW',?_,?_,rfl,hB.frame _,fun h=>by cases h⟩;exact trodAll_mk1 (shut_bool Tryz.underlying4 true);exact trodAll_mk2 (Below.trod zBt kR (of_decide_eq_true kR) h0 hB hlt0) (Below.trod zBt kR (of_decide_eq_true kR) h1 hB hlt1)
theorem zFs:(Rows.moduleIntersectionsRow.inPlace==Tryz.pinned.checked.prog.inPlace 5)=true:=by kernel_rfl
theorem zFt:(Rows.moduleIntersectionsRow.unfollowed==Tryz.pinned.checked.prog.unfollowed 5)=true:=by kernel_rfl
theorem zFu:(Rows.moduleIntersectionsRow.recurses==Tryz.pinned.checked.prog.recurses 5)=true:=by kernel_rfl
theorem zFv:(Rows.moduleIntersectionsRow.named==Tryz.pinned.checked.prog.varsNamed 5)=true:=by kernel_rfl
theorem zEk:joinedFacts Tryz.pinned.checked.prog 5 Tryz.f5 Rows.moduleIntersectionsSpec Rows.moduleIntersectionsRow=true:=by
 unfold joinedFacts;rw[zFs,zFt,zFu,zFv];kernel_rfl
theorem moduleIntersections_holds:Rows.ModuleIntersectionsSaid:=
 OpenClaim.holds_of_wide 5 Tryz.f5 rfl rfl rfl rfl rfl rfl rfl ⟨rfl,rfl,rfl,rfl,rfl⟩ rfl rfl rfl rfl rfl kR Tryz.func5 zEk
  (of_decide_eq_true kR) (by unfold Func.isWrapper;first|(rw[if_pos (by decide+kernel)];kernel_rfl)|(rw[if_neg (by decide+kernel)];exact⟨rfl,rfl⟩))
  (fun os started H enc _=>zEl os started H enc)
end Go.Proofs.YtkidaebmhlijlaaGreat
