/- torsionlaw15.KernelMatchesReference: whatever the input, it returns true, and the input reads as it did. No conditions. -/
import Derived.Test.YtgnmdddaiefooaaGreatRows
import Derived.Test.YtgnmdddaiefooaaGreatK51
set_option linter.unusedVariables false
set_option linter.unusedSimpArgs false
set_option linter.unusedSectionVars false
set_option maxHeartbeats 16000000
set_option maxRecDepth 100000
namespace Go.Proofs.YtgnmdddaiefooaaGreat
open Go.RowKit
theorem zIo{B R C:Nat}{A:Nat->Nat->Int}{ans:Bool}{w:World}{v:Value}(h:jX B R C A ans w v):∃(x y:Int) (o:Option Addr) (n k:Nat) (ec:Int),v= .tuple #[.agg #[.int .i64 x,.int .i64 y,.slice o n k],.int .i64 ec]∧
  (ans=true->ec=0/\zBq B R C A w (.agg #[.int .i64 x,.int .i64 y,.slice o n k]))/\(ans=false->ec=170/\x=0/\y=0/\n=0):=by
 cases ans with
 |false=>
  obtain rfl:=zHC h;exact⟨0,0,none,0,0,170,rfl,nofun,fun _=>⟨rfl,rfl,rfl,rfl⟩⟩
 |true=>
  obtain⟨u,rfl,hu⟩:=zFe h;obtain⟨o,n,k,rfl⟩:=hu.agg;exact⟨_,_,o,n,k,0,rfl,fun _=>⟨rfl,hu⟩,nofun⟩
theorem zOV(v1 v2:Value)(R C:Nat)(A:Nat->Nat->Int)(w:World)(h1:zBr R C A w v1)(h2:zBr R C A w v2):Calls Tryz.prog 17 #[v1,v2] w fun e w'=>∃v,e= .returned v/\v= .bool true/\Below w.heap.size w w':=by
 obtain⟨m1,G1,l1,k1⟩:=h1;exact zHn _ _ _ _ _ w k1 (zGj h2 l1.1)
theorem zOW(v1 v2:Value)(R C:Nat)(A:Nat->Nat->Int)(w:World)(h1:zJb R C A w v1)(h2:zJb R C A w v2):Calls Tryz.prog 17 #[v1,v2] w fun e w'=>∃v,e= .returned v/\v= .bool true/\Below w.heap.size w w':=by
 obtain⟨m1,G1,l1,k1⟩:=h1;exact zHn _ _ _ _ _ w k1 (zIY h2 l1.1)
theorem zOU(v1 v2:Value)(R C:Nat)(A:Nat->Nat->Int)(w:World)(h1:zNi R C A w v1)(h2:zJb R C A w v2){sb:Bool}(hs:sb=true↔zG8 R C A):Calls Tryz.prog 17 #[v1,v2] w fun e w'=>∃v,e= .returned v/\v= .bool sb/\Below w.heap.size w w':=by
 obtain⟨r,c,H,l1,k1⟩:=h1;obtain⟨m,S,l2,k2⟩:=h2;refine(zIX v1 v2 _ _ _ _ _ _ w k1 k2).mono fun e w' h=>⟨_,h.1,?_,h.2⟩
 have e1:=zKt hs l1 l2;have e2:=l2.rank l1;rw[<-e1];congr 1;exact decide_eq_decide.2 ⟨fun h=>h.2.2,fun h=>⟨by omega,rfl,h⟩⟩
theorem zKk{h e:Nat}(h1:1<=h)(he:2*h<=2^e)(he2:e<=35000000)(v:Value)(M:List (List Int))(R C:Nat)(w:World)(hm:qX w v R C M)(hF:yI R C M)(hR:R<=4)(hC:C<=1000000)(hA:leM h R C (ent M)):
  Calls Tryz.prog 18 #[v] w fun e w'=>∃v,e= .returned v/\zNi R C (ent M) w' v/\Below w.heap.size w w':=
 (zBc h1 v M R C w hm.off hF oM hC hA (Nat.lt_of_le_of_lt (jJ h1 (zFh hR)) (zH5 he dE (by rw[yP];omega)))).mono fun e w' ⟨v,r,c,H,U,V,h2,hf,hm,hb⟩=>⟨v,h2,⟨r,c,H,hf.lat,hm⟩,hb⟩
theorem zLx{R C m:Nat}{A S:Nat->Nat->Int}(h:zEp R C A m S):zJi R C A↔zG8 R C A/\m=R:=by
 constructor
 ·intro hP
  refine⟨hP.sat,?_⟩;obtain⟨X,hX⟩:=zAS fun a ha=>(h.1.iff _).1 (zBp.self (A:=A) (R:=R) ha)
  have h1:=zCh hX hP.full;have h2:=h.2.le;omega
 ·rintro⟨h1,rfl⟩
  exact⟨h1,h.2⟩
theorem zJp(p:Prop):∃b:Bool,b=true↔p:=by
 by_cases h:p
 ·exact⟨true,fun _=>h,fun _=>rfl⟩
 ·exact⟨false,nofun,fun h'=>absurd h' h⟩
theorem zA0(v:Value)(r c:Nat)(ls:List Int)(w:World)(h:I8V w v ls)(hr:r<=255)(hc:c<=255):
  Calls Tryz.prog 3 #[.agg #[.int .u8 r,.int .u8 c,v]] w fun e w'=>e= .returned (.bool true)/\Below w.heap.size w w':=by
 obtain⟨ao,n,cap,rfl,-,-,-,-,-⟩:=id h;obtain⟨R,hR⟩:∃R:Nat,R=r%5:=⟨_,rfl⟩;obtain⟨C,hC⟩:∃C:Nat,C=c%5:=⟨_,rfl⟩;have hR4:R<=4:=by omega
 have hC4:C<=4:=by omega
 have HR:=xgw hR;have HC:=xgw hC;clear hR hC;obtain⟨M,hM⟩:∃M,genM R C (zJz C ls)=M:=⟨_,rfl⟩;have HMade:qL (∀w,I8V w (.slice ao n cap) ls->Calls Tryz.prog 14 #[.agg #[.int .u8 r,.int .u8 c,.slice ao n cap]] w fun e w'=>∃v,e= .returned v/\qX w' v R C M/\Below w.heap.size w w'):=⟨fun w h=>by
  rw[<-hM];exact zO7 _ r c ls w h hr hc R C HR.out HC.out⟩
 have HF:qL (yI R C M):=⟨by rw[<-hM];exact zX _ _ _⟩;have HA9:qL (leM 9 R C (ent M)):=⟨by rw[<-hM];exact zBV (zLV R C C ls)⟩;clear hM;obtain⟨sb,hsb⟩:=zJp (zG8 R C (ent M));obtain⟨ans,hans⟩:=zJp (zJi R C (ent M));have HSB:=xgv hsb;have HAN:=xgv hans;clear hsb hans;go_enter Tryz.func3,Tryz.ntmps3;go_upto_region 1 with(fail)
 refine zB ?_;intro W0 hW0;obtain⟨hB0,bx,hs0⟩:=zO hW0;clear hW0;go_wp2_with fail
 refine(zGr W0).mono ?_;rintro e w1 ⟨rfl,hb1⟩;have hB:=nx hB0 hb1;have bx:=bx.below hb1;obtain⟨c1,c2,c3,c4,c5,c6⟩:=bx.three;go_wp2_with fail
 refine(HMade.out w1 (h.below hB)).mono ?_;rintro e w2 ⟨va,rfl,hm,hb2⟩;obtain⟨ro,rn,rc,rfl⟩:=hm.agg;have hB:=nx hB hb2;clear c1 c2 c3 c4 c5 c6 bx;go_upto_region 3 with(fail)
 refine zB ?_;intro W3 hW3;obtain⟨hB3,T4,hs3⟩:=zO hW3;have HM:=xgv (hm.below hB3);have hB:=nx hB hB3;clear hW3 hm;obtain⟨c1,c2,c3,c4,c5,c6⟩:=T4.three;go_wp2_with fail
 refine(zJG (h:=9) (e:=5) dE dE dE _ M R C W3 HM.out HF.out oM hC4 HA9.out).mono ?_;rintro e w4 ⟨sv,rfl,⟨m,S,hsp,hms⟩,hb4⟩;obtain⟨s1,s2,s3,rfl⟩:=hms.agg;have HSP:=xgv hsp;have HMS:=xgv hms;have HM:=xgv (HM.out.below hb4);have T4:=T4.below hb4;have hB:=nx hB hb4;clear c1 c2 c3 c4 c5 c6 hsp hms;go_upto_region 4 with(fail)
 refine zB ?_;intro W5 hW5;obtain⟨hB5,T5,hs5⟩:=zO hW5;have HM:=xgv (HM.out.below hB5);have HMS:=xgv (HMS.out.below hB5);have T4:=T4.below hB5;have hB:=nx hB hB5;clear hW5;obtain⟨c1,c2,c3,c4,c5,c6⟩:=T4.three;go_wp2_with fail
 refine(zBy (h:=9) (e:=5) dE dE dE _ M R C W5 HM.out HF.out oM hC4 HA9.out HAN.out).mono ?_;rintro e w6 ⟨cv,rfl,hret,hb6⟩;obtain⟨x,y,o,n',k,ec,rfl,hyes,hno⟩:=zIo hret;have HY:=xgv hyes;have HN:=xgv hno;have HM:=xgv (HM.out.below hb6);have HMS:=xgv (HMS.out.below hb6);have T4:=T4.below hb6;have T5:=T5.below hb6;have hB:=nx hB hb6;clear c1 c2 c3 c4 c5 c6 hret hyes hno;go_upto_region 5 with(fail)
 refine zB ?_;intro W7 hW7;obtain⟨hB7,T6,hs7⟩:=zO hW7;have HY:qL (ans=true->ec=0/\zBq (gk 16 9) R C (ent M) W7 (.agg #[.int .i64 x,.int .i64 y,.slice o n' k])):=⟨fun h=>⟨(HY.out h).1,(HY.out h).2.below hB7⟩⟩;have HM:=xgv (HM.out.below hB7);have HMS:=xgv (HMS.out.below hB7);have T4:=T4.below hB7;have T5:=T5.below hB7;have hB:=nx hB hB7;clear hW7;obtain⟨c1,c2,c3,c4,c5,c6⟩:=T4.three;obtain⟨d1,d2,d3,d4,d5,d6⟩:=T5.three;have hl1:=zFH R C (ent M);refine zE rfl (RV W7 _ [E 0 19 (.agg #[.int .i64 R,.int .i64 C,.slice ro rn rc]),⟨1,20,zNi R C (ent M)⟩,E 2 21 (.agg #[.int .i64 m,.int .i64 C,.slice s1 s2 s3]),E 3 22 (.bool sb),E 4 8 (.bool sb)]) kR RV.start (RV.fin kR ?fin1) ?steps1
 case steps1=>
  refine⟨?_,?_,?_,?_,?_,trivial⟩<;>(intro L T wS hL hd hcl hI K hK;try refine zA rfl ?_)
  ·have zt:=hI.k 4 rfl kR
   have cc0:=hI.cell c1;have cc1:=hI.cell c2;have cc2:=hI.cell c3;exact xgu
  ·have zt0:=hI.e mm0 (hd 0)
   go_simp;refine(zKk (h:=9) (e:=5) dE dE dE _ M R C _ (HM.out.below hI.bel) HF.out hR4 oM HA9.out).mono ?_;rintro e wa ⟨v,rfl,hv,hba⟩;exact hK _ _ ((hI.world hba).y mm1 hv)
  ·have zt:=hI.k 5 rfl kR
   have cc0:=hI.cell d1;have cc1:=hI.cell d2;have cc2:=hI.cell d3;exact xgu
  ·obtain⟨v1,zt1,h1⟩:=hI.v mm1 (hd 1)
   have zt2:=hI.e mm2 (hd 2);go_simp;refine(zOU _ _ R C (ent M) _ h1 ⟨m,S,HSP.out,HMS.out.below hI.bel⟩ HSB.out).mono ?_;rintro e wa ⟨v,rfl,hv,hba⟩;exact hK _ _ ((hI.world hba).y mm3 hv)
  ·exact xgs (hI.e mm3 (hd 3))
 intro w8 hbw8 T hT;simp only[Fin,E,EI,VP,VSl,VN,xgg,xgh,xgi,xgj]at hT;obtain⟨va1,ha1,rfl⟩:=hT;have HY:qL (ans=true->ec=0/\zBq (gk 16 9) R C (ent M) w8 (.agg #[.int .i64 x,.int .i64 y,.slice o n' k])):=⟨fun h=>⟨(HY.out h).1,(HY.out h).2.below hbw8⟩⟩;have HM:=xgv (HM.out.below hbw8);have HMS:=xgv (HMS.out.below hbw8);have T4:=T4.below hbw8;have T5:=T5.below hbw8;have T6:=T6.below hbw8;have hB:=nx hB hbw8;clear c1 c2 c3 c4 c5 c6 d1 d2 d3 d4 d5 d6 hl1 ha1;obtain⟨c1,c2,c3,c4,c5,c6⟩:=T4.three;obtain⟨d1,d2,d3,d4,d5,d6⟩:=T5.three;have hl1:=zCX R C (ent M);have hl2:=zDN R C (ent M);go_upto_region 6 with(fail)
 refine zE rfl (RV w8 _ [E 0 23 (.agg #[.int .i64 R,.int .i64 C,.slice ro rn rc]),⟨1,24,zBr R C (ent M)⟩,E 2 25 (.agg #[.int .i64 R,.int .i64 C,.slice ro rn rc]),⟨3,26,zBr R C (ent M)⟩,E 4 27 (.bool true),E 5 28 (.bool false),E 6 29 (.bool false),E 7 30 (.agg #[.int .i64 R,.int .i64 C,.slice ro rn rc]),⟨8,31,zJb R C (ent M)⟩,E 9 32 (.agg #[.int .i64 m,.int .i64 C,.slice s1 s2 s3]),E 10 33 (.bool true),E 11 34 (.bool false),E 12 35 (.bool false),E 13 36 (.bool false),E 14 37 (.agg #[.int .i64 R,.int .i64 C,.slice ro rn rc]),E 15 38 (.bool sb),E 16 39 (.bool sb),E 17 40 (.bool false),E 18 41 (.bool false)]) kR RV.start (RV.fin kR ?fin2) ?steps2
 case steps2=>
  refine⟨?_,?_,?_,?_,?_,?_,?_,?_,?_,?_,?_,?_,?_,?_,?_,?_,?_,?_,?_,trivial⟩<;>(intro L T wS hL hd hcl hI K hK;try refine zA rfl ?_)
  ·have zt:=hI.k 4 rfl kR
   have cc0:=hI.cell c1;have cc1:=hI.cell c2;have cc2:=hI.cell c3;exact xgu
  ·have zt0:=hI.e mm0 (hd 0)
   go_simp;refine(zCt (h:=9) (e:=5) dE dE dE _ M R C _ (HM.out.below hI.bel) HF.out hR4 oM HA9.out).mono ?_;rintro e wa ⟨v,rfl,hv,hba⟩;exact hK _ _ ((hI.world hba).y mm1 hv)
  ·have zt:=hI.k 4 rfl kR
   have cc0:=hI.cell c1;have cc1:=hI.cell c2;have cc2:=hI.cell c3;exact xgu
  ·have zt2:=hI.e mm2 (hd 2)
   go_simp;refine(zCg (h:=9) (e:=5) dE dE dE _ M R C _ (HM.out.below hI.bel) HF.out hR4 oM HA9.out).mono ?_;rintro e wa ⟨v,rfl,hv,hba⟩;exact hK _ _ ((hI.world hba).y mm3 hv)
  ·obtain⟨v1,zt1,h1⟩:=hI.v mm1 (hd 1)
   obtain⟨v3,zt3,h3⟩:=hI.v mm3 (hd 3);go_simp;refine(zOV _ _ R C (ent M) _ h1 h3).mono ?_;rintro e wa ⟨v,rfl,hv,hba⟩;exact hK _ _ ((hI.world hba).y mm4 hv)
  ·exact xgs (hI.e mm4 (hd 4))
  ·exact xgs (hI.e mm5 (hd 5))
  ·have zg:=hI.e mm6 (hd 6)
   refine zA xgp ?_;have zt:=hI.k 4 rfl kR;have cc0:=hI.cell c1;have cc1:=hI.cell c2;have cc2:=hI.cell c3;exact xgu
  ·have zg:=hI.e mm6 (hd 6)
   refine zA xgp ?_;have zt7:=hI.e mm7 (hd 7);go_simp;refine(zFl (h:=9) (e:=5) dE dE dE _ M R C _ (HM.out.below hI.bel) HF.out oM hC4 HA9.out).mono ?_;rintro e wa ⟨v,rfl,hv,hba⟩;exact hK _ _ ((hI.world hba).y mm8 hv)
  ·have zg:=hI.e mm6 (hd 6)
   refine zA xgp ?_;have zt:=hI.k 5 rfl kR;have cc0:=hI.cell d1;have cc1:=hI.cell d2;have cc2:=hI.cell d3;exact xgu
  ·have zg:=hI.e mm6 (hd 6)
   refine zA xgp ?_;obtain⟨v8,zt8,h8⟩:=hI.v mm8 (hd 8);have zt9:=hI.e mm9 (hd 9);go_simp;refine(zOW _ _ R C (ent M) _ h8 ⟨m,S,HSP.out,HMS.out.below hI.bel⟩).mono ?_;rintro e wa ⟨v,rfl,hv,hba⟩;exact hK _ _ ((hI.world hba).y yC hv)
  ·have zg:=hI.e mm6 (hd 6)
   refine zA xgp ?_;exact xgs (hI.e yC (hd 10))
  ·exact xgt (hI.e mm6 (hd 6)) (hI.e jQ (hd 11))
  ·exact xgs (hI.e zAY (hd 12))
  ·have zg:=hI.e zBk (hd 13)
   refine zA xgp ?_;have zt:=hI.k 4 rfl kR;have cc0:=hI.cell c1;have cc1:=hI.cell c2;have cc2:=hI.cell c3;exact xgu
  ·have zg:=hI.e zBk (hd 13)
   refine zA xgp ?_;have zt14:=hI.e zCB (hd 14);go_simp;refine(zEL (h:=9) (e:=5) dE dE dE _ M R C _ (HM.out.below hI.bel) HF.out hR4 hC4 HA9.out HSB.out).mono ?_;rintro e wa ⟨v,rfl,hv,hba⟩;exact hK _ _ ((hI.world hba).y zCH hv)
  ·have zg:=hI.e zBk (hd 13)
   refine zA xgp ?_;exact xgs (hI.k 8 rfl kR)
  ·have zg:=hI.e zBk (hd 13)
   refine zA xgp ?_;exact xgt (hI.e zCH (hd 15)) (hI.e zCa (hd 16))
  ·exact xgt (hI.e zBk (hd 13)) (hI.e zCb (hd 17))
 intro w9 hbw9 T hT;simp only[Fin,E,EI,VP,VSl,VN,xgg,xgh,xgi,xgj]at hT;obtain⟨vb1,hb1,vb3,hb3,vb8,hb8,rfl⟩:=hT;have HY:qL (ans=true->ec=0/\zBq (gk 16 9) R C (ent M) w9 (.agg #[.int .i64 x,.int .i64 y,.slice o n' k])):=⟨fun h=>⟨(HY.out h).1,(HY.out h).2.below hbw9⟩⟩;have HM:=xgv (HM.out.below hbw9);have T4:=T4.below hbw9;have T5:=T5.below hbw9;have T6:=T6.below hbw9;have hB:=nx hB hbw9;have HPR:=xgv (zLx HSP.out);clear c1 c2 c3 c4 c5 c6 d1 d2 d3 d4 d5 d6 hl1 hl2 hb1 hb3;obtain⟨c1,c2,c3,c4,c5,c6⟩:=T4.three;obtain⟨d1,d2,d3,d4,d5,d6⟩:=T5.three;obtain⟨f1,f2,f3,f4,f5,f6⟩:=T6.three;cases ha:ans with
 |true=>
  have hp:=HAN.out.1 ha;obtain⟨hsd,hmR⟩:=HPR.out.1 hp;have hsb:sb=true:=HSB.out.2 hsd;obtain⟨rfl,hcv⟩:=HY.out ha;subst hsb;have hmR':(m:Int)=(R:Int):=by omega
  have hRC:R<=C:=hp.full.tr.le;have HCV:=xgv hcv;clear hcv hp hsd ha;go_wp2_with fail
  refine(zBT (eb:=5*2^16) (zCL 16 dE) (zKB dE) dE _ _ M R C w9 HM.out HF.out hRC hC4 HCV.out).mono ?_;rintro e wa ⟨_,rfl,rfl,hba⟩;have hBF:=nx hB hba;go_wp2;go_ret;exact⟨rfl,hBF⟩
 | false=>
  obtain⟨rfl,rfl,rfl,rfl⟩:=HN.out ha;have hor:sb=false∨m≠R:=by
   cases hs:sb with
   |false=>exact .inl rfl
   |true=>exact .inr fun hm=>absurd (HAN.out.2 (HPR.out.2 ⟨HSB.out.1 hs,hm⟩)) (by rw[ha];decide)
  clear ha;rcases hor with hs|hs
  ·subst hs
   go_wp2;go_ret;exact⟨rfl,hB⟩
  ·have hne:¬ (m:Int)=(R:Int):=by omega
   cases hs2:sb with
   |false=>
    subst hs2;go_wp2;go_ret;exact⟨rfl,hB⟩
   |true=>
    subst hs2;go_wp2;go_ret;exact⟨rfl,hB⟩
end Go.Proofs.YtgnmdddaiefooaaGreat

namespace Go.Proofs.YtgnmdddaiefooaaGreat
open Go.ChangeShapes Go.WideShapes Go.ChangeAt Go.RowKit
theorem zAi(os:Os)(started:os.Started)(H:Type)(enc:TypeId × Value->H):
  ReturnsInHanded {} Tryz.checked os 3 .any (Rows.kernelMatchesReferenceSpec.pre6 enc Tryz.prog Tryz.f3 Rows.kernelMatchesReferenceRow.domain false) (Rows.kernelMatchesReferenceSpec.post enc Tryz.prog Tryz.f3 false true false false):=by
 refine returnsInHanded_of_change (C:=Tryz.checked) Tryz.own started kR Tryz.func3
  (ChangeSpec.witness6 (enc:=enc) (C:=Tryz.checked) false ⟨#[],#[.agg #[.int .u8 0,.int .u8 0,.slice none 0 0]],[]⟩ 8 kR kR kR kR) ?_
 intro W base args ds gs before hval0 hW hcnd _;have hval:∀(j:Nat) t v,Tryz.f3.params[j]?=some t->args[j]?=some v->Value.okWide Tryz.prog W .any base t v:=hval0;have hW':=hW;obtain⟨p,q,hA0,hV,rfl,hfz,hnd⟩:=hW;have hA:DataW.TrodAll enc Tryz.prog W 0 (fun _=>true) true Tryz.f3.params.toList args.toList ds p:=hA0;rw[Tryz.params3]at hA hval;obtain⟨v0,d0,rfl,rfl,h0⟩:=trodAll_one hA;obtain⟨rfl,rfl⟩:=trodVars_none hV;clear hA0 hval0;simp only[List.append_nil]at hW';have hlt0:∀x∈p,x.block<W.heap.size:=fun x hx=>hW'.lt x (by simp[hx])
 obtain⟨a,b,sv,ls,rfl,ha,hb,hI⟩:=zLv (hval 0 24 v0 rfl rfl) h0 hlt0;refine(zA0 sv a b ls W hI ha hb).mono fun e W' ⟨he,hB⟩=>?_
 subst he;refine⟨_,rfl,_,_,_,[],p,[],hW',?_,?_,rfl,hB.frame _,fun h=>by cases h⟩
 ·exact trodAll_mk1 (shut_bool Tryz.underlying4 true)
 ·exact trodAll_mk1 (Below.trod Tryz.laidOut kR (of_decide_eq_true kR) h0 hB hlt0)
theorem kernelMatchesReference_holds:Rows.KernelMatchesReferenceSaid:=
 OpenClaim.holds_of_wide 3 Tryz.f3 rfl rfl rfl rfl rfl rfl rfl ⟨rfl,rfl,rfl,rfl,rfl⟩ rfl rfl rfl rfl rfl kR Tryz.func3 kR
  (of_decide_eq_true kR) (by unfold Func.isWrapper;first|(rw[if_pos (by decide+kernel)];kernel_rfl)|(rw[if_neg (by decide+kernel)];exact⟨rfl,rfl⟩))
  (fun os started H enc _=>zAi os started H enc)
end Go.Proofs.YtgnmdddaiefooaaGreat
