/- hermite.Check. -/
import Derived.Test.YtgnmdddaiefooaaGreatF29
import Derived.Test.YtgnmdddaiefooaaGreatF35
set_option linter.unusedVariables false
set_option linter.unusedSimpArgs false
set_option linter.unusedSectionVars false
set_option maxHeartbeats 16000000
set_option maxRecDepth 100000
namespace Go.Proofs.YtgnmdddaiefooaaGreat
open Go.RowKit
theorem zMc(v1 v2:Value)(R m C:Nat)(M1 M2:List (List Int))(w:World)(h1:yG w v1 R m M1)(h2:yG w v2 m C M2)(hF1:yM R m M1)(hF2:yM m C M2)(hR:R<=1000000)(hm:m<=1000000)(hC:C<=1000000)(hS:zAo M1 M2 R m C):
  Calls Tryz.prog 91 #[v1,v2] w fun e w'=>∃o c k,e= .returned (.tuple #[.agg #[.int .i64 R,.int .i64 C,.slice o c k],.int .i64 0])/\yG w' (.agg #[.int .i64 R,.int .i64 C,.slice o c k]) R C (zS R C (zBP M1 M2 m))/\Below w.heap.size w w':=by
 refine(zKL v1 v2 R m C M1 M2 w h1 h2 hF1 hF2 hR hm hC hS).mono ?_;rintro e w' ⟨v,bs,rfl,h,hb⟩;obtain⟨A,rfl,ao,n,cap,rfl,h3⟩:=h.mat.1;exact⟨_,_,_,rfl,h.mat.1,hb⟩
theorem zIv(v1 v2:Value)(R C:Nat)(M1 M2:List (List Int))(d:Bool)(hd:decide (M1=M2)=d)(w:World)(h1:yG w v1 R C M1)(h2:yG w v2 R C M2)(hF1:yM R C M1)(hF2:yM R C M2)(hC:C<=1000000):
  Calls Tryz.prog 71 #[v1,v2] w fun e w'=>e= .returned (.bool d)/\Below w.heap.size w w':=by
 subst hd;exact zHf v1 v2 R C M1 M2 w h1 h2 hF1 hF2 hC
theorem zHg(n:Nat)(w:World)(hn:n<=1000000):Calls Tryz.prog 84 #[.int .i64 n] w fun e w'=>∃v,e= .returned v/\yG w' v n n (zS n n idf)/\Below w.heap.size w w':=by
 refine(zB7 n w hn).mono ?_;rintro e w' ⟨v,bs,rfl,h,hb⟩;exact⟨_,rfl,h.mat.1,hb⟩
theorem Blk.nine{w:World}{g:Nat}{t:TypeId}{c0 c1 c2 c3 c4 c5 c6 c7 c8:Value}(h:Blk w g t #[c0,c1,c2,c3,c4,c5,c6,c7,c8]):
  w.cell? ⟨g,0,none⟩=some c0/\w.cell? ⟨g,1,none⟩=some c1/\w.cell? ⟨g,2,none⟩=some c2/\w.cell? ⟨g,3,none⟩=some c3/\w.cell? ⟨g,4,none⟩=some c4/\w.cell? ⟨g,5,none⟩=some c5/\w.cell? ⟨g,6,none⟩=some c6/\w.cell? ⟨g,7,none⟩=some c7/\w.cell? ⟨g,8,none⟩=some c8:=
 ⟨h.cell 0,h.cell 1,h.cell 2,h.cell 3,h.cell 4,h.cell 5,h.cell 6,h.cell 7,h.cell 8⟩
structure zHL(w:World)(f:Value)(hr hc:Int)(H:List (List Int))(ur uc:Int)(U:List (List Int))(vr vc:Int)(V:List (List Int)):Prop where
 ex:∃h u v,f= .agg #[.int .i64 hr,.int .i64 hc,h,.int .i64 ur,.int .i64 uc,u,.int .i64 vr,.int .i64 vc,v]/\qT w h H/\qT w u U/\qT w v V
theorem zBq.told{w:World}{f:Value}{R C:Nat}{H U V:List (List Int)}(h:zBq w f R C H U V):zHL w f R C H R R U R R V:=⟨h.ex⟩
theorem zHL.below{w w':World}{f:Value}{hr hc ur uc vr vc:Int}{H U V:List (List Int)}(h:zHL w f hr hc H ur uc U vr vc V)(hb:Below w.heap.size w w'):zHL w' f hr hc H ur uc U vr vc V:=by
 obtain⟨a,b,c,h1,h2,h3,h4⟩:=h.ex;exact⟨a,b,c,h1,h2.below hb,h3.below hb,h4.below hb⟩
theorem zJ5(a b c d e f:Value)(W:World):(Instr.index 113 (.agg #[a,b,c,d,e,f]) (.int .i64 0)).run Tryz.prog W= .ok (.agg #[a,b,c]) W:=by
 kernel_rfl
theorem zJ6(a b c d e f:Value)(W:World):(Instr.index 113 (.agg #[a,b,c,d,e,f]) (.int .i64 1)).run Tryz.prog W= .ok (.agg #[d,e,f]) W:=by
 kernel_rfl
structure zMr(R C:Nat)(A:List (List Int))(hr hc:Int)(H:List (List Int))(ur uc:Int)(U:List (List Int))(vr vc:Int)(V:List (List Int)):Prop where
 is:zF0 hr hc H
 er:hr=R
 ec:hc=C
 u:ur=R/\uc=R/\qF ur uc U
 v:vr=R/\vc=R/\qF vr vc V
 mul:zS R C (zBP U A R)=H
 inv:zS R R (zBP U V R)=zS R R idf
theorem zEB(av fv:Value)(R C:Nat)(A H U V:List (List Int))(hr hc ur uc vr vc:Int)(w:World)(ha:yG w av R C A)(hA:yM R C A)(hf:zHL w fv hr hc H ur uc U vr vc V)(hR:R<=1000000)(hC:C<=1000000)
  (hm1:yM R R U->zAo U A R R C) (hm2:yM R R U->yM R R V->zAo U V R R R):
  Calls Tryz.prog 45 #[av,fv] w (zA1 (zMr R C A hr hc H ur uc U vr vc V) w):=by
 obtain⟨h0,u0,v0,rfl,hh0,hu0,hv0⟩:=hf.ex;obtain⟨ho,hn,hk,rfl,-⟩:=id hh0;obtain⟨uo,un,uk,rfl,-⟩:=id hu0;obtain⟨vo,vn,vk,rfl,-⟩:=id hv0;obtain⟨A1,rfl,hA1⟩:=id ha;obtain⟨ao,an,ac,rfl,-⟩:=id hA1;have hh:yG w (.agg #[.int .i64 hr,.int .i64 hc,.slice ho hn hk]) hr hc H:=⟨_,rfl,hh0⟩;have hu:yG w (.agg #[.int .i64 ur,.int .i64 uc,.slice uo un uk]) ur uc U:=⟨_,rfl,hu0⟩;have hv:yG w (.agg #[.int .i64 vr,.int .i64 vc,.slice vo vn vk]) vr vc V:=⟨_,rfl,hv0⟩;have HA:=xgv ha;have HH:=xgv hh;have HU:=xgv hu;have HV0:=xgv hv;have KA:=xgv hA;have K1:=xgv hm1;have K2:=xgv hm2;have hdv:decide (qF R C A)=true:=decide_eq_true hA.valid;clear ha hf hh hu hv hh0 hu0 hv0 hA1 hA hm1 hm2;go_enter Tryz.func45,Tryz.ntmps45;go_upto_region 1 with(fail)
 refine zB ?_;intro W0 hW0;obtain⟨hB,bx,bf,hs0⟩:=qV hW0;obtain⟨c1,c2,c3,c4,c5,c6⟩:=bx.three;obtain⟨q0,q1,q2,q3,q4,q5,q6,q7,q8⟩:=bf.nine;clear hW0;go_wp2_with fail
 refine(yC _ R C A W0 (HA.out.below hB)).mono ?_;rintro e w1 ⟨rfl,hb1⟩;rw[hdv];have hB:=nx hB hb1;have bx:=bx.below hb1;have bf:=bf.below hb1;clear c1 c2 c3 c4 c5 c6 q0 q1 q2 q3 q4 q5 q6 q7 q8;obtain⟨c1,c2,c3,c4,c5,c6⟩:=bx.three;obtain⟨q0,q1,q2,q3,q4,q5,q6,q7,q8⟩:=bf.nine;clear hdv;go_wp2_with fail
 refine(zIh _ hr hc H w1 (HH.out.below hB)).mono ?_;rintro e w2 ⟨b,rfl,hbi,hb2⟩;have HBI:=xgv hbi;clear hbi;have hB:=nx hB hb2;have bx:=bx.below hb2;have bf:=bf.below hb2;clear c1 c2 c3 c4 c5 c6 q0 q1 q2 q3 q4 q5 q6 q7 q8;obtain⟨c1,c2,c3,c4,c5,c6⟩:=bx.three;obtain⟨q0,q1,q2,q3,q4,q5,q6,q7,q8⟩:=bf.nine;cases b
 ·go_wp2
  go_ret;exact zA1.no (fun h=>Bool.false_ne_true (HBI.out.2 h.is)) hB
 ·by_cases e1:hr=(R:Int)
  ·subst e1
   by_cases e2:hc=(C:Int)
   ·subst e2
    have HI:=xgv (HBI.out.1 rfl);clear HBI;go_wp2;go_loopw [41] (fun kv wr=>∃k:Nat,k<=2/\kv= .int .i64 k/\Below w.heap.size w wr/\Blk wr w.heap.size 28 #[.int .i64 R,.int .i64 C,.slice ao an ac]∧
     Blk wr (w.heap.size+1) 62 #[.int .i64 R,.int .i64 C,.slice ho hn hk,.int .i64 ur,.int .i64 uc,.slice uo un uk,.int .i64 vr,.int .i64 vc,.slice vo vn vk]∧
     Hid ((0<k->ur=R/\uc=R/\qF ur uc U)/\(1<k->vr=R/\vc=R/\qF vr vc V))) (fun kv _=>2-(intOf kv).toNat)
    case atStart=>exact⟨0,by omega,rfl,hB,bx,bf,xgw ⟨fun h=>by omega,fun h=>by omega⟩⟩
    case round=>
     clear hB bx bf c1 c2 c3 c4 c5 c6 q0 q1 q2 q3 q4 q5 q6 q7 q8;obtain⟨k,hk2,rfl,hB,bx,bf,hin⟩:=hrel;obtain⟨c1,c2,c3,c4,c5,c6⟩:=bx.three;obtain⟨q0,q1,q2,q3,q4,q5,q6,q7,q8⟩:=bf.nine;have hi0:=zJ5 (.int .i64 ur) (.int .i64 uc) (.slice uo un uk) (.int .i64 vr) (.int .i64 vc) (.slice vo vn vk);have hi1:=zJ6 (.int .i64 ur) (.int .i64 uc) (.slice uo un uk) (.int .i64 vr) (.int .i64 vc) (.slice vo vn vk);obtain rfl|rfl|rfl:k=0∨k=1∨k=2:=by omega
     ·skip
      go_upto_region 6 with(fail)
      refine zB ?_;intro W6 hW6;obtain⟨hB6,T6,hs6⟩:=zM hW6;clear hW6;have hB:=nx hB hB6;have bx:=bx.below hB6;have bf:=bf.below hB6;clear c1 c2 c3 c4 c5 c6 q0 q1 q2 q3 q4 q5 q6 q7 q8;obtain⟨c1,c2,c3,c4,c5,c6⟩:=bx.three;obtain⟨q0,q1,q2,q3,q4,q5,q6,q7,q8⟩:=bf.nine;obtain⟨t1,t2,t3,t4,t5,t6⟩:=T6.three;go_wp2_with fail
      refine(yC _ ur uc U W6 (HU.out.below hB)).mono ?_;rintro e w7 ⟨rfl,hb7⟩;have hB:=nx hB hb7;have bx:=bx.below hb7;have bf:=bf.below hb7;clear c1 c2 c3 c4 c5 c6 q0 q1 q2 q3 q4 q5 q6 q7 q8;obtain⟨c1,c2,c3,c4,c5,c6⟩:=bx.three;obtain⟨q0,q1,q2,q3,q4,q5,q6,q7,q8⟩:=bf.nine;have T6:=T6.below hb7;clear t1 t2 t3 t4 t5 t6;obtain⟨t1,t2,t3,t4,t5,t6⟩:=T6.three;by_cases hv:qF ur uc U
      ·rw[decide_eq_true hv]
       have HV:=xgw hv;clear hv;by_cases e3:ur=(R:Int)
       ·have n3:(ur !=(R:Int))=false:=by simp[e3]
        have E3:=xgw e3;clear e3;by_cases e4:uc=(R:Int)
        ·have n4:(uc !=(R:Int))=false:=by simp[e4]
         have E4:=xgw e4;clear e4;go_wp2;go_roundw
         case rel=>exact⟨1,by omega,by simp,hB,bx,bf,xgw ⟨fun _=>⟨E3.out,E4.out,HV.out⟩,fun h=>absurd h dE⟩⟩
         case measure=>simp[intOf]
        ·have n4:(uc !=(R:Int))=true:=by simpa using e4
         have E4:=xgw e4;clear e4;go_wp2;go_ret;exact zA1.no (fun h=>absurd h.u.2.1 E4.out) hB
       ·have n3:(ur !=(R:Int))=true:=by simpa using e3
        have E3:=xgw e3;clear e3;go_wp2;go_ret;exact zA1.no (fun h=>absurd h.u.1 E3.out) hB
      ·rw[decide_eq_false hv]
       have HV:=xgw hv;clear hv;go_wp2;go_ret;exact zA1.no (fun h=>absurd h.u.2.2 HV.out) hB
     ·skip
      go_upto_region 6 with(fail)
      refine zB ?_;intro W6 hW6;obtain⟨hB6,T6,hs6⟩:=zM hW6;clear hW6;have hB:=nx hB hB6;have bx:=bx.below hB6;have bf:=bf.below hB6;clear c1 c2 c3 c4 c5 c6 q0 q1 q2 q3 q4 q5 q6 q7 q8;obtain⟨c1,c2,c3,c4,c5,c6⟩:=bx.three;obtain⟨q0,q1,q2,q3,q4,q5,q6,q7,q8⟩:=bf.nine;obtain⟨t1,t2,t3,t4,t5,t6⟩:=T6.three;go_wp2_with fail
      refine(yC _ vr vc V W6 (HV0.out.below hB)).mono ?_;rintro e w7 ⟨rfl,hb7⟩;have hB:=nx hB hb7;have bx:=bx.below hb7;have bf:=bf.below hb7;clear c1 c2 c3 c4 c5 c6 q0 q1 q2 q3 q4 q5 q6 q7 q8;obtain⟨c1,c2,c3,c4,c5,c6⟩:=bx.three;obtain⟨q0,q1,q2,q3,q4,q5,q6,q7,q8⟩:=bf.nine;have T6:=T6.below hb7;clear t1 t2 t3 t4 t5 t6;obtain⟨t1,t2,t3,t4,t5,t6⟩:=T6.three;by_cases hv:qF vr vc V
      ·rw[decide_eq_true hv]
       have HV:=xgw hv;clear hv;by_cases e3:vr=(R:Int)
       ·have n3:(vr !=(R:Int))=false:=by simp[e3]
        have E3:=xgw e3;clear e3;by_cases e4:vc=(R:Int)
        ·have n4:(vc !=(R:Int))=false:=by simp[e4]
         have E4:=xgw e4;clear e4;go_wp2;go_roundw
         case rel=>exact⟨2,by omega,by simp,hB,bx,bf,xgw ⟨fun _=>hin.out.1 dE,fun _=>⟨E3.out,E4.out,HV.out⟩⟩⟩
         case measure=>simp[intOf]
        ·have n4:(vc !=(R:Int))=true:=by simpa using e4
         have E4:=xgw e4;clear e4;go_wp2;go_ret;exact zA1.no (fun h=>absurd h.v.2.1 E4.out) hB
       ·have n3:(vr !=(R:Int))=true:=by simpa using e3
        have E3:=xgw e3;clear e3;go_wp2;go_ret;exact zA1.no (fun h=>absurd h.v.1 E3.out) hB
      ·rw[decide_eq_false hv]
       have HV:=xgw hv;clear hv;go_wp2;go_ret;exact zA1.no (fun h=>absurd h.v.2.2 HV.out) hB
     ·obtain⟨hU1,hV1⟩:=hin.out
      obtain⟨rfl,rfl,hU2⟩:=hU1 dE;obtain⟨rfl,rfl,hV2⟩:=hV1 dE;have FU:=xgv hU2.fits;have FV:=xgv hV2.fits;have FH:=xgv (qF.fits HI.out.1);have KK:=xgv (And.intro hU2 hV2);obtain⟨d3,hd3⟩:∃d,decide (zS R C (zBP U A R)=H)=d:=⟨_,rfl⟩;obtain⟨d4,hd4⟩:∃d,decide (zS R R (zBP U V R)=zS R R idf)=d:=⟨_,rfl⟩;have D3:=xgv hd3;have D4:=xgv hd4;clear hU1 hV1 hU2 hV2 hd3 hd4 hin;go_wp2_with fail
      refine(zMc _ _ R R C U A wr (HU.out.below hB) (HA.out.below hB) FU.out KA.out hR hR hC (K1.out FU.out)).mono ?_;rintro e w5 ⟨o,c,k,rfl,hm,hb5⟩;have hB:=nx hB hb5;have bx:=bx.below hb5;have bf:=bf.below hb5;clear c1 c2 c3 c4 c5 c6 q0 q1 q2 q3 q4 q5 q6 q7 q8;obtain⟨c1,c2,c3,c4,c5,c6⟩:=bx.three;obtain⟨q0,q1,q2,q3,q4,q5,q6,q7,q8⟩:=bf.nine;have HM:=xgv hm;clear hm;go_upto_region 10 with(fail)
      refine zB ?_;intro W6 hW6;obtain⟨hB6,T7,hs6⟩:=zM hW6;clear hW6;have hB:=nx hB hB6;have bx:=bx.below hB6;have bf:=bf.below hB6;clear c1 c2 c3 c4 c5 c6 q0 q1 q2 q3 q4 q5 q6 q7 q8;obtain⟨c1,c2,c3,c4,c5,c6⟩:=bx.three;obtain⟨q0,q1,q2,q3,q4,q5,q6,q7,q8⟩:=bf.nine;have HM:=xgv (HM.out.below hB6);go_wp2_with fail
      refine(zMc _ _ R R R U V W6 (HU.out.below hB) (HV0.out.below hB) FU.out FV.out hR hR hR (K2.out FU.out FV.out)).mono ?_;rintro e w7 ⟨o2,k2,l2,rfl,hm2,hb7⟩;have hB:=nx hB hb7;have bx:=bx.below hb7;have bf:=bf.below hb7;clear c1 c2 c3 c4 c5 c6 q0 q1 q2 q3 q4 q5 q6 q7 q8;obtain⟨c1,c2,c3,c4,c5,c6⟩:=bx.three;obtain⟨q0,q1,q2,q3,q4,q5,q6,q7,q8⟩:=bf.nine;have HM2:=xgv hm2;have HM:=xgv (HM.out.below hb7);have T7:=T7.below hb7;clear hm2;go_upto_region 11 with(fail)
      refine zB ?_;intro W8 hW8;obtain⟨hB8,T9,hs8⟩:=zM hW8;clear hW8;have hB:=nx hB hB8;have bx:=bx.below hB8;have bf:=bf.below hB8;clear c1 c2 c3 c4 c5 c6 q0 q1 q2 q3 q4 q5 q6 q7 q8;obtain⟨c1,c2,c3,c4,c5,c6⟩:=bx.three;obtain⟨q0,q1,q2,q3,q4,q5,q6,q7,q8⟩:=bf.nine;have T7:=T7.below hB8;have HM:=xgv (HM.out.below hB8);have HM2:=xgv (HM2.out.below hB8);obtain⟨t1,t2,t3,t4,t5,t6⟩:=T7.three;obtain⟨s1,s2,s3,s4,s5,s6⟩:=T9.three;have hE1:=zIv (.agg #[.int .i64 R,.int .i64 C,.slice o c k]) (.agg #[.int .i64 R,.int .i64 C,.slice ho hn hk]) R C _ _ d3 D3.out;have hE2:=fun v=>zIv (.agg #[.int .i64 R,.int .i64 R,.slice o2 k2 l2]) v R R _ _ d4 D4.out
      cases d3
      ·skip
       refine zF rfl (RV W8 _ [E 0 77 (.agg #[.int .i64 R,.int .i64 C,.slice o c k]),VP 1 78 (w.heap.size+1) 0,E 2 79 (.agg #[.int .i64 R,.int .i64 C,.slice ho hn hk]),E 3 80 (.bool false),E 4 81 (.bool false),E 5 82 (undef),E 6 83 (undef),E 7 84 (undef),E 8 85 (undef),E 9 86 (undef),E 10 87 (.bool false),E 11 4 (.bool false)]) kR RV.start (RV.fin kR ?fin1) ?steps1
       case steps1=>
        refine⟨?_,?_,?_,?_,?_,?_,?_,?_,?_,?_,?_,?_,trivial⟩<;>(intro L T wS hL hd hcl hI K hK;try refine zA rfl ?_)
        ·have zt:=hI.k 7 rfl kR
         have cc0:=hI.cell t1;have cc1:=hI.cell t2;have cc2:=hI.cell t3;exact xgu
        ·exact xgs (hI.k 3 rfl kR)
        ·have zt1:=hI.e mm1 (hd 1)
         have cc0:=hI.cell q0;have cc1:=hI.cell q1;have cc2:=hI.cell q2;exact xgu
        ·have zt0:=hI.e mm0 (hd 0)
         have zt2:=hI.e mm2 (hd 2);go_simp;refine(hE1 _ (HM.out.below hI.bel) ((HH.out.below hB).below hI.bel) (qL _ _ _) FH.out hC).mono ?_
         (rintro e wa ⟨rfl,hba⟩;have hv:(Value.bool false)= .bool false:=rfl)
         exact hK _ _ ((hI.world hba).y mm3 hv)
        ·exact xgs (hI.e mm3 (hd 3))
        ·have zg:=hI.e mm4 (hd 4)
         refine zC xgp ?_;exact hK _ _ (hI.y mm5 rfl)
        ·have zg:=hI.e mm4 (hd 4)
         refine zC xgp ?_;exact hK _ _ (hI.y mm6 rfl)
        ·have zg:=hI.e mm4 (hd 4)
         refine zC xgp ?_;exact hK _ _ (hI.y mm7 rfl)
        ·have zg:=hI.e mm4 (hd 4)
         refine zC xgp ?_;exact hK _ _ (hI.y mm8 rfl)
        ·have zg:=hI.e mm4 (hd 4)
         refine zC xgp ?_;exact hK _ _ (hI.y mm9 rfl)
        ·exact xgs (hI.e mm4 (hd 4))
        ·exact xgs (hI.e yD (hd 10))
       intro w9 hbw9 T hT;simp only[Fin,E,EI,VP,VSl,VN,xgg,xgh,xgi,xgj]at hT;subst hT;have hB:=nx hB hbw9;go_wp2;go_ret;exact zA1.no (fun h=>absurd h.mul (of_decide_eq_false D3.out)) hB
      ·skip
       refine zF rfl (RV W8 _ [E 0 77 (.agg #[.int .i64 R,.int .i64 C,.slice o c k]),VP 1 78 (w.heap.size+1) 0,E 2 79 (.agg #[.int .i64 R,.int .i64 C,.slice ho hn hk]),E 3 80 (.bool true),E 4 81 (.bool true),E 5 82 (.agg #[.int .i64 R,.int .i64 R,.slice o2 k2 l2]),VP 6 83 w.heap.size 0,VN 7 84 R,⟨8,85,fun w v=>yG w v (R) (R) (zS R R idf)⟩,E 9 86 (.bool d4),E 10 87 (.bool d4),E 11 4 (.bool d4)]) kR RV.start (RV.fin kR ?fin2) ?steps2
       case steps2=>
        refine⟨?_,?_,?_,?_,?_,?_,?_,?_,?_,?_,?_,?_,trivial⟩<;>(intro L T wS hL hd hcl hI K hK;try refine zA rfl ?_)
        ·have zt:=hI.k 7 rfl kR
         have cc0:=hI.cell t1;have cc1:=hI.cell t2;have cc2:=hI.cell t3;exact xgu
        ·exact xgs (hI.k 3 rfl kR)
        ·have zt1:=hI.e mm1 (hd 1)
         have cc0:=hI.cell q0;have cc1:=hI.cell q1;have cc2:=hI.cell q2;exact xgu
        ·have zt0:=hI.e mm0 (hd 0)
         have zt2:=hI.e mm2 (hd 2);go_simp;refine(hE1 _ (HM.out.below hI.bel) ((HH.out.below hB).below hI.bel) (qL _ _ _) FH.out hC).mono ?_
         (rintro e wa ⟨rfl,hba⟩;have hv:(Value.bool true)= .bool true:=rfl)
         exact hK _ _ ((hI.world hba).y mm3 hv)
        ·exact xgs (hI.e mm3 (hd 3))
        ·have zg:=hI.e mm4 (hd 4)
         refine zA xgp ?_;have zt:=hI.k 9 rfl kR;have cc0:=hI.cell s1;have cc1:=hI.cell s2;have cc2:=hI.cell s3;exact xgu
        ·have zg:=hI.e mm4 (hd 4)
         refine zA xgp ?_;exact xgs (hI.k 2 rfl kR)
        ·have zg:=hI.e mm4 (hd 4)
         refine zA xgp ?_;have zt6:=hI.e mm6 (hd 6);have cc0:=hI.cell c1;exact xgu
        ·have zg:=hI.e mm4 (hd 4)
         refine zA xgp ?_;have zt7:=hI.e mm7 (hd 7);go_simp;refine(zHg R _ hR).mono ?_;rintro e wa ⟨v,rfl,hv,hba⟩;exact hK _ _ ((hI.world hba).y mm8 hv)
        ·have zg:=hI.e mm4 (hd 4)
         refine zA xgp ?_;have zt5:=hI.e mm5 (hd 5);obtain⟨v8,zt8,h8⟩:=hI.v mm8 (hd 8);go_simp;refine(hE2 _ _ (HM2.out.below hI.bel) h8 (qL _ _ _) (qL _ _ _) hR).mono ?_
         (rintro e wa ⟨rfl,hba⟩;have hv:(Value.bool d4)= .bool d4:=rfl)
         exact hK _ _ ((hI.world hba).y mm9 hv)
        ·exact xgt (hI.e mm4 (hd 4)) (hI.e mm9 (hd 9))
        ·exact xgs (hI.e yD (hd 10))
       intro w9 hbw9 T hT;simp only[Fin,E,EI,VP,VSl,VN,xgg,xgh,xgi,xgj]at hT;obtain⟨vz8,hz8,rfl⟩:=hT;have hB:=nx hB hbw9;go_wp2;go_ret;refine zA1.of d4 ⟨fun h=>?_,fun h=>by rw[<-D4.out];exact decide_eq_true h.inv⟩ hB;subst h;exact⟨HI.out,rfl,rfl,⟨rfl,rfl,KK.out.1⟩,⟨rfl,rfl,KK.out.2⟩,of_decide_eq_true D3.out,of_decide_eq_true D4.out⟩
   ·have n2:(hc !=(C:Int))=true:=by simpa using e2
    have E2:=xgw e2;clear e2;go_wp2;go_ret;exact zA1.no (fun h=>absurd h.ec E2.out) hB
  ·have n1:(hr !=(R:Int))=true:=by simpa using e1
   have E1:=xgw e1;clear e1;go_wp2;go_ret;exact zA1.no (fun h=>absurd h.er E1.out) hB
end Go.Proofs.YtgnmdddaiefooaaGreat
