/- torsionref12.Check. The law for regions that draw (RegV), where two values stand in a relation, and some values are copies of others. -/
import Derived.Test.YtgnmdddaiefooaaGreatF24
import Derived.Test.YtgnmdddaiefooaaGreatF35
import Derived.Test.YtgnmdddaiefooaaGreatF36
set_option linter.unusedVariables false
set_option linter.unusedSimpArgs false
set_option linter.unusedSectionVars false
set_option maxHeartbeats 16000000
set_option maxRecDepth 100000
namespace Go.Proofs.YtgnmdddaiefooaaGreat
open Go.RowKit
theorem zEP(v1 v2:Value)(R m C:Nat)(M1 M2:List (List Int))(w:World)(h1:yG w v1 R m M1)(h2:yG w v2 m C M2)(hF1:yM R m M1)(hF2:yM m C M2)(hR:R<=1000000)(hm:m<=1000000)(hC:C<=1000000)(hS:zAo M1 M2 R m C):
  Calls Tryz.prog 32 #[v1,v2] w fun e w'=>∃v,e= .returned v/\yG w' v R C (zS R C (zBP M1 M2 m))/\Below w.heap.size w w':=by
 refine(zEx v1 v2 R m C M1 M2 w h1 h2 hF1 hF2 hR hm hC hS).mono ?_;rintro e w' ⟨v,bs,rfl,h,hb⟩;exact⟨_,rfl,h.mat.1,hb⟩
theorem zGY(n:Nat)(w:World)(hn:n<=1000000):Calls Tryz.prog 38 #[.int .i64 n] w fun e w'=>∃v,e= .returned v/\yG w' v n n (zS n n idf)/\Below w.heap.size w w':=by
 refine(zDw n w hn).mono ?_;rintro e w' ⟨v,bs,rfl,h,hb⟩;exact⟨_,rfl,h.mat.1,hb⟩
theorem zJO(v1 v2:Value)(R C:Nat)(M1 M2:List (List Int))(d:Bool)(hd:decide (M1=M2)=d)(w:World)(h1:yG w v1 R C M1)(h2:yG w v2 R C M2):
  Calls Tryz.prog 17 #[v1,v2] w fun e w'=>e= .returned (.bool d)/\Below w.heap.size w w':=by
 have:=zG8 v1 v2 R C R C M1 M2 w h1 h2;rwa[show decide ((R:Int)=R/\(C:Int)=C/\M1=M2)=d from by rw[<-hd];exact decide_eq_decide.2 ⟨fun h=>h.2.2,fun h=>⟨rfl,rfl,h⟩⟩]at this
theorem zFf(av fv:Value)(R C:Nat)(A H U V:List (List Int))(hr hc ur uc vr vc:Int)(w:World)(ha:yG w av R C A)(hA:yM R C A)(hf:zHL w fv hr hc H ur uc U vr vc V)(hR:R<=1000000)(hC:C<=1000000)(hSH:∀r∈H,∀z∈r,Sm z)
  (hm1:yM R R U->zAo U A R R C) (hm2:yM R R U->yM R R V->zAo U V R R R):
  Calls Tryz.prog 42 #[av,fv] w (zA1 (zMr R C A hr hc H ur uc U vr vc V) w):=by
 obtain⟨h0,u0,v0,rfl,hh0,hu0,hv0⟩:=hf.ex;obtain⟨ho,hn,hk,rfl,-⟩:=id hh0;obtain⟨uo,un,uk,rfl,-⟩:=id hu0;obtain⟨vo,vn,vk,rfl,-⟩:=id hv0;obtain⟨A1,rfl,hA1⟩:=id ha;obtain⟨ao,an,ac,rfl,-⟩:=id hA1;have hh:yG w (.agg #[.int .i64 hr,.int .i64 hc,.slice ho hn hk]) hr hc H:=⟨_,rfl,hh0⟩;have hu:yG w (.agg #[.int .i64 ur,.int .i64 uc,.slice uo un uk]) ur uc U:=⟨_,rfl,hu0⟩;have hv:yG w (.agg #[.int .i64 vr,.int .i64 vc,.slice vo vn vk]) vr vc V:=⟨_,rfl,hv0⟩;have HA:=xgv ha;have HH:=xgv hh;have HU:=xgv hu;have HV0:=xgv hv;have KA:=xgv hA;have KS:=xgv hSH;have K1:=xgv hm1;have K2:=xgv hm2;have hdv:decide (qF R C A)=true:=decide_eq_true hA.valid;clear ha hf hh hu hv hh0 hu0 hv0 hA1 hA hm1 hm2 hSH;go_enter Tryz.func42,Tryz.ntmps42;go_upto_region 1 with(fail)
 refine zB ?_;intro W0 hW0;obtain⟨hB,bx,bf,hs0⟩:=qV hW0;obtain⟨c1,c2,c3,c4,c5,c6⟩:=bx.three;obtain⟨q0,q1,q2,q3,q4,q5,q6,q7,q8⟩:=bf.nine;clear hW0;go_wp2_with fail
 refine(zBB _ R C A W0 (HA.out.below hB)).mono ?_;rintro e w1 ⟨rfl,hb1⟩;rw[hdv];have hB:=nx hB hb1;have bx:=bx.below hb1;have bf:=bf.below hb1;clear c1 c2 c3 c4 c5 c6 q0 q1 q2 q3 q4 q5 q6 q7 q8;obtain⟨c1,c2,c3,c4,c5,c6⟩:=bx.three;obtain⟨q0,q1,q2,q3,q4,q5,q6,q7,q8⟩:=bf.nine;clear hdv;go_wp2_with fail
 refine(zFg _ hr hc H w1 (HH.out.below hB) KS.out).mono ?_;rintro e w2 ⟨b,rfl,hbi,hb2⟩;have HBI:=xgv hbi;clear hbi;have hB:=nx hB hb2;have bx:=bx.below hb2;have bf:=bf.below hb2;clear c1 c2 c3 c4 c5 c6 q0 q1 q2 q3 q4 q5 q6 q7 q8;obtain⟨c1,c2,c3,c4,c5,c6⟩:=bx.three;obtain⟨q0,q1,q2,q3,q4,q5,q6,q7,q8⟩:=bf.nine;cases b
 ·go_wp2
  go_ret;exact zA1.no (fun h=>Bool.false_ne_true (HBI.out.2 h.is)) hB
 ·by_cases e1:hr=(R:Int)
  ·subst e1
   by_cases e2:hc=(C:Int)
   ·subst e2
    have HI:=xgv (HBI.out.1 rfl);clear HBI;obtain⟨d1,hd1⟩:∃d,decide (ur=R/\uc=R/\qF ur uc U)=d:=⟨_,rfl⟩;obtain⟨d2,hd2⟩:∃d,decide (vr=R/\vc=R/\qF vr vc V)=d:=⟨_,rfl⟩;have D1:=xgv hd1;have D2:=xgv hd2;clear hd1 hd2;go_wp2_with fail
    refine(zFo (.agg #[.int .i64 ur,.int .i64 uc,.slice uo un uk]) ur uc R R U d1 D1.out w2 (HU.out.below hB)).mono ?_;rintro e w3 ⟨rfl,hb3⟩;have hB:=nx hB hb3;have bx:=bx.below hb3;have bf:=bf.below hb3;clear c1 c2 c3 c4 c5 c6 q0 q1 q2 q3 q4 q5 q6 q7 q8;obtain⟨c1,c2,c3,c4,c5,c6⟩:=bx.three;obtain⟨q0,q1,q2,q3,q4,q5,q6,q7,q8⟩:=bf.nine;go_wp2_with fail
    refine(zFo (.agg #[.int .i64 vr,.int .i64 vc,.slice vo vn vk]) vr vc R R V d2 D2.out w3 (HV0.out.below hB)).mono ?_;rintro e w4 ⟨rfl,hb4⟩;have hB:=nx hB hb4;have bx:=bx.below hb4;have bf:=bf.below hb4;clear c1 c2 c3 c4 c5 c6 q0 q1 q2 q3 q4 q5 q6 q7 q8;obtain⟨c1,c2,c3,c4,c5,c6⟩:=bx.three;obtain⟨q0,q1,q2,q3,q4,q5,q6,q7,q8⟩:=bf.nine;go_upto_region 7 with(fail)
    cases d1
    ·skip
     refine zF rfl (RV w4 _ [E 0 50 (.bool false),E 1 51 (.bool false),E 2 52 (undef),E 3 53 (.bool false),E 4 54 (.bool false),E 5 55 (undef),E 6 56 (undef),E 7 57 (undef),E 8 58 (undef),E 9 59 (undef),E 10 60 (undef),E 11 61 (undef),E 12 62 (.bool false),E 13 63 (.bool false),E 14 64 (undef),E 15 65 (undef),E 16 66 (undef),E 17 67 (undef),E 18 68 (undef),E 19 69 (undef),E 20 70 (undef),E 21 71 (undef),E 22 72 (undef),E 23 73 (.bool false),E 24 4 (.bool false)]) kR RV.start (RV.fin kR ?fin1) ?steps1
     case steps1=>
      refine⟨?_,?_,?_,?_,?_,?_,?_,?_,?_,?_,?_,?_,?_,?_,?_,?_,?_,?_,?_,?_,?_,?_,?_,?_,?_,trivial⟩<;>(intro L T wS hL hd hcl hI K hK;try refine zA rfl ?_)
      ·exact xgs (hI.k 7 rfl kR)
      ·exact xgs (hI.e mm0 (hd 0))
      ·have zg:=hI.e mm1 (hd 1)
       refine zC xgp ?_;exact hK _ _ (hI.y mm2 rfl)
      ·exact xgt (hI.e mm1 (hd 1)) (hI.e mm2 (hd 2))
      ·exact xgs (hI.e mm3 (hd 3))
      ·have zg:=hI.e mm4 (hd 4)
       refine zC xgp ?_;exact hK _ _ (hI.y mm5 rfl)
      ·have zg:=hI.e mm4 (hd 4)
       refine zC xgp ?_;exact hK _ _ (hI.y mm6 rfl)
      ·have zg:=hI.e mm4 (hd 4)
       refine zC xgp ?_;exact hK _ _ (hI.y mm7 rfl)
      ·have zg:=hI.e mm4 (hd 4)
       refine zC xgp ?_;exact hK _ _ (hI.y mm8 rfl)
      ·have zg:=hI.e mm4 (hd 4)
       refine zC xgp ?_;exact hK _ _ (hI.y mm9 rfl)
      ·have zg:=hI.e mm4 (hd 4)
       refine zC xgp ?_;exact hK _ _ (hI.y yD rfl)
      ·have zg:=hI.e mm4 (hd 4)
       refine zC xgp ?_;exact hK _ _ (hI.y zAH rfl)
      ·exact xgs (hI.e mm4 (hd 4))
      ·exact xgs (hI.e zAb (hd 12))
      ·have zg:=hI.e jK (hd 13)
       refine zC xgp ?_;exact hK _ _ (hI.y zCP rfl)
      ·have zg:=hI.e jK (hd 13)
       refine zC xgp ?_;exact hK _ _ (hI.y zB8 rfl)
      ·have zg:=hI.e jK (hd 13)
       refine zC xgp ?_;exact hK _ _ (hI.y zCx rfl)
      ·have zg:=hI.e jK (hd 13)
       refine zC xgp ?_;exact hK _ _ (hI.y zCa rfl)
      ·have zg:=hI.e jK (hd 13)
       refine zC xgp ?_;exact hK _ _ (hI.y zDX rfl)
      ·have zg:=hI.e jK (hd 13)
       refine zC xgp ?_;exact hK _ _ (hI.y zEJ rfl)
      ·have zg:=hI.e jK (hd 13)
       refine zC xgp ?_;exact hK _ _ (hI.y zDs rfl)
      ·have zg:=hI.e jK (hd 13)
       refine zC xgp ?_;exact hK _ _ (hI.y zDn rfl)
      ·have zg:=hI.e jK (hd 13)
       refine zC xgp ?_;exact hK _ _ (hI.y zDt rfl)
      ·exact xgs (hI.e jK (hd 13))
      ·exact xgs (hI.e zF2 (hd 23))
     intro w9 hbw9 T hT;simp only[Fin,E,EI,VP,VSl,VN,xgg,xgh,xgi,xgj]at hT;subst hT;have hB:=nx hB hbw9;go_wp2;go_ret;exact zA1.no (fun h=>absurd h.u (of_decide_eq_false D1.out)) hB
    ·cases d2
     ·skip
      refine zF rfl (RV w4 _ [E 0 50 (.bool true),E 1 51 (.bool true),E 2 52 (.bool false),E 3 53 (.bool false),E 4 54 (.bool false),E 5 55 (undef),E 6 56 (undef),E 7 57 (undef),E 8 58 (undef),E 9 59 (undef),E 10 60 (undef),E 11 61 (undef),E 12 62 (.bool false),E 13 63 (.bool false),E 14 64 (undef),E 15 65 (undef),E 16 66 (undef),E 17 67 (undef),E 18 68 (undef),E 19 69 (undef),E 20 70 (undef),E 21 71 (undef),E 22 72 (undef),E 23 73 (.bool false),E 24 4 (.bool false)]) kR RV.start (RV.fin kR ?fin2) ?steps2
      case steps2=>
       refine⟨?_,?_,?_,?_,?_,?_,?_,?_,?_,?_,?_,?_,?_,?_,?_,?_,?_,?_,?_,?_,?_,?_,?_,?_,?_,trivial⟩<;>(intro L T wS hL hd hcl hI K hK;try refine zA rfl ?_)
       ·exact xgs (hI.k 7 rfl kR)
       ·exact xgs (hI.e mm0 (hd 0))
       ·have zg:=hI.e mm1 (hd 1)
        refine zA xgp ?_;exact xgs (hI.k 8 rfl kR)
       ·exact xgt (hI.e mm1 (hd 1)) (hI.e mm2 (hd 2))
       ·exact xgs (hI.e mm3 (hd 3))
       ·have zg:=hI.e mm4 (hd 4)
        refine zC xgp ?_;exact hK _ _ (hI.y mm5 rfl)
       ·have zg:=hI.e mm4 (hd 4)
        refine zC xgp ?_;exact hK _ _ (hI.y mm6 rfl)
       ·have zg:=hI.e mm4 (hd 4)
        refine zC xgp ?_;exact hK _ _ (hI.y mm7 rfl)
       ·have zg:=hI.e mm4 (hd 4)
        refine zC xgp ?_;exact hK _ _ (hI.y mm8 rfl)
       ·have zg:=hI.e mm4 (hd 4)
        refine zC xgp ?_;exact hK _ _ (hI.y mm9 rfl)
       ·have zg:=hI.e mm4 (hd 4)
        refine zC xgp ?_;exact hK _ _ (hI.y yD rfl)
       ·have zg:=hI.e mm4 (hd 4)
        refine zC xgp ?_;exact hK _ _ (hI.y zAH rfl)
       ·exact xgs (hI.e mm4 (hd 4))
       ·exact xgs (hI.e zAb (hd 12))
       ·have zg:=hI.e jK (hd 13)
        refine zC xgp ?_;exact hK _ _ (hI.y zCP rfl)
       ·have zg:=hI.e jK (hd 13)
        refine zC xgp ?_;exact hK _ _ (hI.y zB8 rfl)
       ·have zg:=hI.e jK (hd 13)
        refine zC xgp ?_;exact hK _ _ (hI.y zCx rfl)
       ·have zg:=hI.e jK (hd 13)
        refine zC xgp ?_;exact hK _ _ (hI.y zCa rfl)
       ·have zg:=hI.e jK (hd 13)
        refine zC xgp ?_;exact hK _ _ (hI.y zDX rfl)
       ·have zg:=hI.e jK (hd 13)
        refine zC xgp ?_;exact hK _ _ (hI.y zEJ rfl)
       ·have zg:=hI.e jK (hd 13)
        refine zC xgp ?_;exact hK _ _ (hI.y zDs rfl)
       ·have zg:=hI.e jK (hd 13)
        refine zC xgp ?_;exact hK _ _ (hI.y zDn rfl)
       ·have zg:=hI.e jK (hd 13)
        refine zC xgp ?_;exact hK _ _ (hI.y zDt rfl)
       ·exact xgs (hI.e jK (hd 13))
       ·exact xgs (hI.e zF2 (hd 23))
      intro w9 hbw9 T hT;simp only[Fin,E,EI,VP,VSl,VN,xgg,xgh,xgi,xgj]at hT;subst hT;have hB:=nx hB hbw9;go_wp2;go_ret;exact zA1.no (fun h=>absurd h.v (of_decide_eq_false D2.out)) hB
     ·obtain⟨rfl,rfl,hU2⟩:=of_decide_eq_true D1.out
      obtain⟨rfl,rfl,hV2⟩:=of_decide_eq_true D2.out;have FU:=xgv hU2.fits;have FV:=xgv hV2.fits;have FH:=xgv (qF.fits HI.out.1);have KK:=xgv (And.intro hU2 hV2);obtain⟨d3,hd3⟩:∃d,decide (zS R C (zBP U A R)=H)=d:=⟨_,rfl⟩;obtain⟨d4,hd4⟩:∃d,decide (zS R R (zBP U V R)=zS R R idf)=d:=⟨_,rfl⟩;have D3:=xgv hd3;have D4:=xgv hd4;clear hU2 hV2 hd3 hd4;have hE1:=fun v=>zJO v (.agg #[.int .i64 R,.int .i64 C,.slice ho hn hk]) R C _ _ d3 D3.out
      have hE2:=fun v v2=>zJO v v2 R R _ _ d4 D4.out
      have hP1:=fun Q (hQ:Below w.heap.size w Q)=>zEP _ _ R R C U A Q (HU.out.below hQ) (HA.out.below hQ) FU.out KA.out hR hR hC (K1.out FU.out)
      have hP2:=fun Q (hQ:Below w.heap.size w Q)=>zEP _ _ R R R U V Q (HU.out.below hQ) (HV0.out.below hQ) FU.out FV.out hR hR hR (K2.out FU.out FV.out)
      cases d3
      ·skip
       refine zF rfl (RV w4 _ [E 0 50 (.bool true),E 1 51 (.bool true),E 2 52 (.bool true),E 3 53 (.bool true),E 4 54 (.bool true),VP 5 55 (w.heap.size+1) 3,E 6 56 (.agg #[.int .i64 R,.int .i64 R,.slice uo un uk]),E 7 57 (.agg #[.int .i64 R,.int .i64 C,.slice ao an ac]),⟨8,58,fun w v=>yG w v (R) (C) (zS R C (zBP U A R))⟩,VP 9 59 (w.heap.size+1) 0,E 10 60 (.agg #[.int .i64 R,.int .i64 C,.slice ho hn hk]),E 11 61 (.bool false),E 12 62 (.bool false),E 13 63 (.bool false),E 14 64 (undef),E 15 65 (undef),E 16 66 (undef),E 17 67 (undef),E 18 68 (undef),E 19 69 (undef),E 20 70 (undef),E 21 71 (undef),E 22 72 (undef),E 23 73 (.bool false),E 24 4 (.bool false)]) kR RV.start (RV.fin kR ?fin3) ?steps3
       case steps3=>
        refine⟨?_,?_,?_,?_,?_,?_,?_,?_,?_,?_,?_,?_,?_,?_,?_,?_,?_,?_,?_,?_,?_,?_,?_,?_,?_,trivial⟩<;>(intro L T wS hL hd hcl hI K hK;try refine zA rfl ?_)
        ·exact xgs (hI.k 7 rfl kR)
        ·exact xgs (hI.e mm0 (hd 0))
        ·have zg:=hI.e mm1 (hd 1)
         refine zA xgp ?_;exact xgs (hI.k 8 rfl kR)
        ·exact xgt (hI.e mm1 (hd 1)) (hI.e mm2 (hd 2))
        ·exact xgs (hI.e mm3 (hd 3))
        ·have zg:=hI.e mm4 (hd 4)
         refine zA xgp ?_;exact xgs (hI.k 3 rfl kR)
        ·have zg:=hI.e mm4 (hd 4)
         refine zA xgp ?_;have zt5:=hI.e mm5 (hd 5);have cc0:=hI.cell q3;have cc1:=hI.cell q4;have cc2:=hI.cell q5;exact xgu
        ·have zg:=hI.e mm4 (hd 4)
         refine zA xgp ?_;have zt:=hI.k 2 rfl kR;have cc0:=hI.cell c1;have cc1:=hI.cell c2;have cc2:=hI.cell c3;exact xgu
        ·have zg:=hI.e mm4 (hd 4)
         refine zA xgp ?_;have zt6:=hI.e mm6 (hd 6);have zt7:=hI.e mm7 (hd 7);go_simp;refine(hP1 _ (nx hB hI.bel)).mono ?_;rintro e wa ⟨v,rfl,hv,hba⟩;exact hK _ _ ((hI.world hba).y mm8 hv)
        ·have zg:=hI.e mm4 (hd 4)
         refine zA xgp ?_;exact xgs (hI.k 3 rfl kR)
        ·have zg:=hI.e mm4 (hd 4)
         refine zA xgp ?_;have zt9:=hI.e mm9 (hd 9);have cc0:=hI.cell q0;have cc1:=hI.cell q1;have cc2:=hI.cell q2;exact xgu
        ·have zg:=hI.e mm4 (hd 4)
         refine zA xgp ?_;obtain⟨v8,zt8,h8⟩:=hI.v mm8 (hd 8);have zt10:=hI.e yD (hd 10);go_simp;refine(hE1 _ _ h8 ((HH.out.below hB).below hI.bel)).mono ?_
         (rintro e wa ⟨rfl,hba⟩;have hv:(Value.bool false)= .bool false:=rfl)
         exact hK _ _ ((hI.world hba).y zAH hv)
        ·exact xgt (hI.e mm4 (hd 4)) (hI.e zAH (hd 11))
        ·exact xgs (hI.e zAb (hd 12))
        ·have zg:=hI.e jK (hd 13)
         refine zC xgp ?_;exact hK _ _ (hI.y zCP rfl)
        ·have zg:=hI.e jK (hd 13)
         refine zC xgp ?_;exact hK _ _ (hI.y zB8 rfl)
        ·have zg:=hI.e jK (hd 13)
         refine zC xgp ?_;exact hK _ _ (hI.y zCx rfl)
        ·have zg:=hI.e jK (hd 13)
         refine zC xgp ?_;exact hK _ _ (hI.y zCa rfl)
        ·have zg:=hI.e jK (hd 13)
         refine zC xgp ?_;exact hK _ _ (hI.y zDX rfl)
        ·have zg:=hI.e jK (hd 13)
         refine zC xgp ?_;exact hK _ _ (hI.y zEJ rfl)
        ·have zg:=hI.e jK (hd 13)
         refine zC xgp ?_;exact hK _ _ (hI.y zDs rfl)
        ·have zg:=hI.e jK (hd 13)
         refine zC xgp ?_;exact hK _ _ (hI.y zDn rfl)
        ·have zg:=hI.e jK (hd 13)
         refine zC xgp ?_;exact hK _ _ (hI.y zDt rfl)
        ·exact xgs (hI.e jK (hd 13))
        ·exact xgs (hI.e zF2 (hd 23))
       intro w9 hbw9 T hT;simp only[Fin,E,EI,VP,VSl,VN,xgg,xgh,xgi,xgj]at hT;obtain⟨vz8,hz8,rfl⟩:=hT;have hB:=nx hB hbw9;go_wp2;go_ret;exact zA1.no (fun h=>absurd h.mul (of_decide_eq_false D3.out)) hB
      ·skip
       refine zF rfl (RV w4 _ [E 0 50 (.bool true),E 1 51 (.bool true),E 2 52 (.bool true),E 3 53 (.bool true),E 4 54 (.bool true),VP 5 55 (w.heap.size+1) 3,E 6 56 (.agg #[.int .i64 R,.int .i64 R,.slice uo un uk]),E 7 57 (.agg #[.int .i64 R,.int .i64 C,.slice ao an ac]),⟨8,58,fun w v=>yG w v (R) (C) (zS R C (zBP U A R))⟩,VP 9 59 (w.heap.size+1) 0,E 10 60 (.agg #[.int .i64 R,.int .i64 C,.slice ho hn hk]),E 11 61 (.bool true),E 12 62 (.bool true),E 13 63 (.bool true),VP 14 64 (w.heap.size+1) 3,E 15 65 (.agg #[.int .i64 R,.int .i64 R,.slice uo un uk]),VP 16 66 (w.heap.size+1) 6,E 17 67 (.agg #[.int .i64 R,.int .i64 R,.slice vo vn vk]),⟨18,68,fun w v=>yG w v (R) (R) (zS R R (zBP U V R))⟩,VP 19 69 w.heap.size 0,VN 20 70 R,⟨21,71,fun w v=>yG w v (R) (R) (zS R R idf)⟩,E 22 72 (.bool d4),E 23 73 (.bool d4),E 24 4 (.bool d4)]) kR RV.start (RV.fin kR ?fin4) ?steps4
       case steps4=>
        refine⟨?_,?_,?_,?_,?_,?_,?_,?_,?_,?_,?_,?_,?_,?_,?_,?_,?_,?_,?_,?_,?_,?_,?_,?_,?_,trivial⟩<;>(intro L T wS hL hd hcl hI K hK;try refine zA rfl ?_)
        ·exact xgs (hI.k 7 rfl kR)
        ·exact xgs (hI.e mm0 (hd 0))
        ·have zg:=hI.e mm1 (hd 1)
         refine zA xgp ?_;exact xgs (hI.k 8 rfl kR)
        ·exact xgt (hI.e mm1 (hd 1)) (hI.e mm2 (hd 2))
        ·exact xgs (hI.e mm3 (hd 3))
        ·have zg:=hI.e mm4 (hd 4)
         refine zA xgp ?_;exact xgs (hI.k 3 rfl kR)
        ·have zg:=hI.e mm4 (hd 4)
         refine zA xgp ?_;have zt5:=hI.e mm5 (hd 5);have cc0:=hI.cell q3;have cc1:=hI.cell q4;have cc2:=hI.cell q5;exact xgu
        ·have zg:=hI.e mm4 (hd 4)
         refine zA xgp ?_;have zt:=hI.k 2 rfl kR;have cc0:=hI.cell c1;have cc1:=hI.cell c2;have cc2:=hI.cell c3;exact xgu
        ·have zg:=hI.e mm4 (hd 4)
         refine zA xgp ?_;have zt6:=hI.e mm6 (hd 6);have zt7:=hI.e mm7 (hd 7);go_simp;refine(hP1 _ (nx hB hI.bel)).mono ?_;rintro e wa ⟨v,rfl,hv,hba⟩;exact hK _ _ ((hI.world hba).y mm8 hv)
        ·have zg:=hI.e mm4 (hd 4)
         refine zA xgp ?_;exact xgs (hI.k 3 rfl kR)
        ·have zg:=hI.e mm4 (hd 4)
         refine zA xgp ?_;have zt9:=hI.e mm9 (hd 9);have cc0:=hI.cell q0;have cc1:=hI.cell q1;have cc2:=hI.cell q2;exact xgu
        ·have zg:=hI.e mm4 (hd 4)
         refine zA xgp ?_;obtain⟨v8,zt8,h8⟩:=hI.v mm8 (hd 8);have zt10:=hI.e yD (hd 10);go_simp;refine(hE1 _ _ h8 ((HH.out.below hB).below hI.bel)).mono ?_
         (rintro e wa ⟨rfl,hba⟩;have hv:(Value.bool true)= .bool true:=rfl)
         exact hK _ _ ((hI.world hba).y zAH hv)
        ·exact xgt (hI.e mm4 (hd 4)) (hI.e zAH (hd 11))
        ·exact xgs (hI.e zAb (hd 12))
        ·have zg:=hI.e jK (hd 13)
         refine zA xgp ?_;exact xgs (hI.k 3 rfl kR)
        ·have zg:=hI.e jK (hd 13)
         refine zA xgp ?_;have zt14:=hI.e zCP (hd 14);have cc0:=hI.cell q3;have cc1:=hI.cell q4;have cc2:=hI.cell q5;exact xgu
        ·have zg:=hI.e jK (hd 13)
         refine zA xgp ?_;exact xgs (hI.k 3 rfl kR)
        ·have zg:=hI.e jK (hd 13)
         refine zA xgp ?_;have zt16:=hI.e zCx (hd 16);have cc0:=hI.cell q6;have cc1:=hI.cell q7;have cc2:=hI.cell q8;exact xgu
        ·have zg:=hI.e jK (hd 13)
         refine zA xgp ?_;have zt15:=hI.e zB8 (hd 15);have zt17:=hI.e zCa (hd 17);go_simp;refine(hP2 _ (nx hB hI.bel)).mono ?_;rintro e wa ⟨v,rfl,hv,hba⟩;exact hK _ _ ((hI.world hba).y zDX hv)
        ·have zg:=hI.e jK (hd 13)
         refine zA xgp ?_;exact xgs (hI.k 2 rfl kR)
        ·have zg:=hI.e jK (hd 13)
         refine zA xgp ?_;have zt19:=hI.e zEJ (hd 19);have cc0:=hI.cell c1;exact xgu
        ·have zg:=hI.e jK (hd 13)
         refine zA xgp ?_;have zt20:=hI.e zDs (hd 20);go_simp;refine(zGY R _ hR).mono ?_;rintro e wa ⟨v,rfl,hv,hba⟩;exact hK _ _ ((hI.world hba).y zDn hv)
        ·have zg:=hI.e jK (hd 13)
         refine zA xgp ?_;obtain⟨v18,zt18,h18⟩:=hI.v zDX (hd 18);obtain⟨v21,zt21,h21⟩:=hI.v zDn (hd 21);go_simp;refine(hE2 _ _ _ h18 h21).mono ?_
         (rintro e wa ⟨rfl,hba⟩;have hv:(Value.bool d4)= .bool d4:=rfl)
         exact hK _ _ ((hI.world hba).y zDt hv)
        ·exact xgt (hI.e jK (hd 13)) (hI.e zDt (hd 22))
        ·exact xgs (hI.e zF2 (hd 23))
       intro w9 hbw9 T hT;simp only[Fin,E,EI,VP,VSl,VN,xgg,xgh,xgi,xgj]at hT;obtain⟨vz8,hz8,vz18,hz18,vz21,hz21,rfl⟩:=hT;have hB:=nx hB hbw9;go_wp2;go_ret;refine zA1.of d4 ⟨fun h=>?_,fun h=>by rw[<-D4.out];exact decide_eq_true h.inv⟩ hB;subst h;exact⟨HI.out,rfl,rfl,⟨rfl,rfl,KK.out.1⟩,⟨rfl,rfl,KK.out.2⟩,of_decide_eq_true D3.out,of_decide_eq_true D4.out⟩
   ·have n2:(hc !=(C:Int))=true:=by simpa using e2
    have E2:=xgw e2;clear e2;go_wp2;go_ret;exact zA1.no (fun h=>absurd h.ec E2.out) hB
  ·have n1:(hr !=(R:Int))=true:=by simpa using e1
   have E1:=xgw e1;clear e1;go_wp2;go_ret;exact zA1.no (fun h=>absurd h.er E1.out) hB
structure Cpy where
 k:Nat
 s:Nat
 d:Nat
 t:Nat
def Cpy.fine(vs:List VS)(c:Cpy):Bool:=vs.any (fun a=>a.op==c.k && a.slot==c.s) && vs.any (fun a=>a.op==c.d && a.slot==c.t) && !(c.k==c.d)
theorem zIJ{vs:List VS}{k s:Nat}(h:vs.any (fun a=>a.op==k && a.slot==s)=true):∃P,(⟨k,s,P⟩:VS)∈vs:=by
 obtain⟨a,ha,e⟩:=List.any_eq_true.1 h;simp only[Bool.and_eq_true,beq_iff_eq]at e;obtain⟨rfl,rfl⟩:=e;exact⟨a.P,ha⟩
theorem Cpy.fine_all{vs:List VS}{cp:List Cpy}(h:cp.all (Cpy.fine vs)=true){c:Cpy}(hc:c∈cp):(∃P,(⟨c.k,c.s,P⟩:VS)∈vs)/\(∃P,(⟨c.d,c.t,P⟩:VS)∈vs)/\c.k≠c.d:=by
 have:=List.all_eq_true.1 h c hc;unfold Cpy.fine at this;simp only[Bool.and_eq_true]at this;exact⟨zIJ this.1.1,zIJ this.1.2,by have:=this.2;simpa using this⟩
structure RVP(ka sa kb sb:Nat)(Q:Value->Value->Prop)(cp:List Cpy)(W:World)(T0:Array Value)(vs:List VS)(L:Array Bool)(T:Array Value)(w:World):Prop where
 rv:RV W T0 vs L T w
 ma:∃P,(⟨ka,sa,P⟩:VS)∈vs
 mb:∃P,(⟨kb,sb,P⟩:VS)∈vs
 ne:ka≠kb
 mc:cp.all (Cpy.fine vs)=true
 pair:L[ka]?=some true->L[kb]?=some true->∃u v,T[sa]?=some u/\T[sb]?=some v/\Q u v
 cpy:∀c∈cp,L[c.k]?=some true->L[c.d]?=some true/\T[c.s]?=T[c.t]?
section
variable {ka sa kb sb:Nat} {Q:Value->Value->Prop} {cp:List Cpy} {W:World} {T0:Array Value} {vs:List VS} {L:Array Bool} {T:Array Value} {w w':World}
theorem RVP.start(hwf:zCO T0.size vs=true)(hv:∀s∈vs,qQ s.P)(ma:∃P,(⟨ka,sa,P⟩:VS)∈vs)(mb:∃P,(⟨kb,sb,P⟩:VS)∈vs)(ne:ka≠kb)(mc:cp.all (Cpy.fine vs)=true){n:Nat}:RVP ka sa kb sb Q cp W T0 vs (Array.replicate n false) T0 W.drew:=
 have no:∀k,¬ (Array.replicate n false)[k]?=some true:=fun k h=>by
  rw[Array.getElem?_replicate]at h;split at h<;>simp at h
 ⟨RV.start hwf hv,ma,mb,ne,mc,fun h _=>absurd h (no _),fun _ _ h=>absurd h (no _)⟩
theorem RVP.world(h:RVP ka sa kb sb Q cp W T0 vs L T w)(hb:Below w.heap.size w w'):RVP ka sa kb sb Q cp W T0 vs L T w':=⟨h.rv.world hb,h.ma,h.mb,h.ne,h.mc,h.pair,h.cpy⟩
theorem RVP.cell(h:RVP ka sa kb sb Q cp W T0 vs L T w){b o:Nat}{v:Value}(hc:W.cell? ⟨b,o,none⟩=some v):w.cell? ⟨b,o,none⟩=some v:=h.rv.cell hc
theorem RVP.bel(h:RVP ka sa kb sb Q cp W T0 vs L T w):Below W.heap.size W w:=h.rv.bel
theorem RVP.size(h:RVP ka sa kb sb Q cp W T0 vs L T w):T.size=T0.size:=h.rv.size
theorem RVP.keep(h:RVP ka sa kb sb Q cp W T0 vs L T w):∀j,(∀s∈vs,s.slot≠j)->T[j]?=T0[j]?:=h.rv.keep
theorem RVP.val(h:RVP ka sa kb sb Q cp W T0 vs L T w):∀s∈vs,L[s.op]?=some true->∃v,T[s.slot]?=some v/\s.P w v:=h.rv.val
theorem RVP.value{k:Nat}{v:Value}(h:RVP ka sa kb sb Q cp W T0 vs L T w)(s:VS)(hs:s∈vs)(hk:s.op=k)(hP:s.P w v)
  (hq:∀u,(k=ka->T[sb]?=some u->L[kb]?=some true->Q v u)/\(k=kb->T[sa]?=some u->L[ka]?=some true->Q u v):=by intro u;exact⟨fun e=>absurd e dE,fun e=>absurd e dE⟩)
  (hL:L[k]?=some false:=by assumption) (hc:cp.all (fun c=>!(c.k==k))=true∨∀c∈cp,c.k=k->L[c.d]?=some true/\T[c.t]?=some v:=by first|exact .inl rfl|exact .inl dE):
  RVP ka sa kb sb Q cp W T0 vs (L.setIfInBounds k true) (T.setIfInBounds s.slot v) w:=by
 have hr:=h.rv.value s hs hk hP;subst hk;obtain⟨Pa,ma⟩:=h.ma;obtain⟨Pb,mb⟩:=h.mb;have hwf:=h.rv.wf;unfold zCO at hwf;simp only[Bool.and_eq_true,decide_eq_true_eq,List.all_eq_true]at hwf;obtain⟨⟨w1,w2⟩,w3⟩:=hwf;have hslot:s.slot<T.size:=by rw[h.rv.size];exact w3 _ (List.mem_map.2 ⟨s,hs,rfl⟩)
 have hab:sb≠sa:=fun e=>h.ne (congrArg VS.op (zL w1 ma mb e.symm))
 have hkeep:∀{j:Nat},L[j]?=some true->j≠s.op:=fun hj e=>by rw[e,hL]at hj;cases hj
 have hset:∀{j:Nat},L[j]?=some true->(L.setIfInBounds s.op true)[j]?=some true:=fun {j} hj=>by rw[xgc (Ne.symm (hkeep hj))];exact hj
 refine⟨hr,h.ma,h.mb,h.ne,h.mc,fun h1 h2=>?_,fun c hcm h1=>?_⟩
 ·by_cases e1:s.op=ka
  ·have es:s=⟨ka,sa,Pa⟩:=zL w2 hs ma e1
   have e2:s.slot=sa:=by rw[es]
   have hlb:L[kb]?=some true:=zH h2 (by rw[e1];exact h.ne);obtain⟨u,hu,-⟩:=h.rv.val _ mb hlb;exact⟨v,u,by rw[e2,Array.getElem?_setIfInBounds_self_of_lt (by rw[<-e2];exact hslot)],by rw[e2,xgc (Ne.symm hab)];exact hu,(hq u).1 e1 hu hlb⟩
  ·have hla:L[ka]?=some true:=zH h1 e1
   obtain⟨u,hu,-⟩:=h.rv.val _ ma hla;by_cases e3:s.op=kb
   ·have es:s=⟨kb,sb,Pb⟩:=zL w2 hs mb e3
    have e2:s.slot=sb:=by rw[es]
    exact⟨u,v,by rw[e2,xgc hab];exact hu,by rw[e2,Array.getElem?_setIfInBounds_self_of_lt (by rw[<-e2];exact hslot)],(hq u).2 e3 hu hla⟩
   ·obtain⟨x,y,g1,g2,g3⟩:=h.pair hla (zH h2 e3)
    have n1:s.slot≠sa:=fun e=>e1 (congrArg VS.op (zL w1 hs ma e))
    have n2:s.slot≠sb:=fun e=>e3 (congrArg VS.op (zL w1 hs mb e))
    exact⟨x,y,by rw[xgc n1];exact g1,by rw[xgc n2];exact g2,g3⟩
 ·obtain⟨⟨Pk,mk⟩,⟨Pd,md⟩,hne⟩:=Cpy.fine_all h.mc hcm
  by_cases e1:c.k=s.op
  ·rcases hc with hc|hc
   ·have:=List.all_eq_true.1 hc c hcm
    simp[e1]at this
   ·obtain⟨g1,g2⟩:=hc c hcm e1
    have es:s=⟨c.k,c.s,Pk⟩:=zL w2 hs mk e1.symm;have e2:s.slot=c.s:=by rw[es]
    have n2:s.slot≠c.t:=fun e=>hne (by rw[e1];exact congrArg VS.op (zL w1 hs md e))
    exact⟨hset g1,by rw[<-e2,Array.getElem?_setIfInBounds_self_of_lt hslot,xgc n2,g2]⟩
  ·obtain⟨g1,g2⟩:=h.cpy c hcm (zH h1 (Ne.symm e1))
   have n1:s.slot≠c.s:=fun e=>e1 (congrArg VS.op (zL w1 hs mk e)).symm
   have n2:s.slot≠c.t:=fun e=>hkeep g1 (congrArg VS.op (zL w1 hs md e)).symm
   exact⟨hset g1,by rw[xgc n1,xgc n2];exact g2⟩
theorem RVP.v{s:VS}(h:RVP ka sa kb sb Q cp W T0 vs L T w)(hs:s∈vs)(hl:L[s.op]?=some true):∃v,T[s.slot]?=some v/\s.P w v:=h.val s hs hl
theorem RVP.y{k:Nat}{v:Value}(h:RVP ka sa kb sb Q cp W T0 vs L T w){s:VS}(hs:s∈vs)(hP:s.P w v)
  (hq:∀u,(k=ka->T[sb]?=some u->L[kb]?=some true->Q v u)/\(k=kb->T[sa]?=some u->L[ka]?=some true->Q u v):=by intro u;exact⟨fun e=>absurd e dE,fun e=>absurd e dE⟩)
  (hL:L[k]?=some false:=by assumption) (hc:cp.all (fun c=>!(c.k==k))=true∨∀c∈cp,c.k=k->L[c.d]?=some true/\T[c.t]?=some v:=by first|exact .inl rfl|exact .inl dE) (hk:s.op=k:=by rfl):
  RVP ka sa kb sb Q cp W T0 vs (L.setIfInBounds k true) (T.setIfInBounds s.slot v) w:=h.value s hs hk hP hq hL hc
end
end Go.Proofs.YtgnmdddaiefooaaGreat
