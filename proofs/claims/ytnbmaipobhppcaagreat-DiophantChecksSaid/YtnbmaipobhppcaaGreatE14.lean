/- diophant.Check at a column. diophant.Solve where b does not fit. torsionlaw14.row. diophant.Check: a row and a column. diophant.Check: a row of the wrong length. What both Checks answer to what diophant.Solve hands back. torsionlaw14.sanity. Appending a whole slice of integers. torsionref12: the work of a run, as a value. torsionref12: Start, Floor. torsionref12.Reduce. The product of a row of digits and a matrix of digits stays small. torsionlaw14: DiophantDecides, DiophantFinds: the walks. Appending to an empty slice; both Checks where the matrix does not fit. -/
import Derived.ArgAppend
import Derived.Test.YtnbmaipobhppcaaGreatE04
import Derived.Test.YtnbmaipobhppcaaGreatE06
import Derived.Test.YtnbmaipobhppcaaGreatE08
import Derived.Test.YtnbmaipobhppcaaGreatE09
import Derived.Test.YtnbmaipobhppcaaGreatE10
import Derived.Test.YtnbmaipobhppcaaGreatE11
import Derived.Test.YtnbmaipobhppcaaGreatE13
set_option linter.unusedVariables false
set_option linter.unusedSimpArgs false
set_option linter.unusedSectionVars false
set_option maxHeartbeats 16000000
set_option maxRecDepth 100000
namespace Go.Proofs.YtnbmaipobhppcaaGreat
open Go.RowKit
theorem zFJ{e h:Nat}(mv bv xv yv:Value)(R C:Nat)(M:List (List Int))(y:Nat->Int)(xs:List Int)(ps:List (Int × Int))(w:World)(hm:jE w mv R C M)(hF:jT R C M)(hb:qN w bv (zM C y))(hx:qN w xv xs)(hp:jY w yv ps)(hC:C<=1000)
  (hps:∀p∈ps,p.1.natAbs<2^e/\p.2.natAbs<2^e) (hM:∀a,a<R->∀b,b<C->(ent M a b).natAbs<2^h) (hy:∀j,j<C->(y j).natAbs<2^h) (hh:1<=h) (he:e+h+1<=900) (hl:xs.length=0) (hk:ps.length=C):
  Calls Tryz.prog 20 #[mv,bv,.agg #[.bool false,xv,yv]] w fun e w'=>∃u,e= .returned u/\u= .bool (zE2 R C (ent M) y xs.length ps)/\Below w.heap.size w w':=by
 have HM:=xgv hm;obtain⟨Av,rfl,hrw⟩:=id hm;obtain⟨ao,mn,acap,rfl,e2,e3,e4,-⟩:=id hrw;obtain rfl:R=mn:=by rw[<-e2,hF.1]
 have HF:=xgv hF;have HB:=xgv hb;have HX:=xgv hx;obtain⟨bo,bn,bc,rfl,f2,f3,f4,-⟩:=id hb;obtain rfl:C=bn:=by rw[<-f2,zD]
 obtain⟨xo,xn,xc,rfl,g2,g3,g4,-⟩:=id hx;obtain⟨yo,yn,yc,rfl,k2,k3,k4,-⟩:=id hp;obtain rfl:C=yn:=by omega
 obtain rfl:xn=0:=by omega
 have hdv:decide (qX R C M)=true:=decide_eq_true hF.valid;have HP:=xgv hp;have HPB:=xgv hps;have HMB:=xgv hM;have HYB:=xgv hy;have HL:=xgv hk;have hce:zE2 R C (ent M) y xs.length ps=(zC3 ps && ((List.range R).all fun i=>isZ (zBU C (ent M i) (rqL ps))) && !isZ (zBU C y (rqL ps))):=by
  unfold zE2;rw[hl,hk];simp
 rw[hce];obtain⟨ans,hans⟩:∃ans,(zC3 ps && ((List.range R).all fun i=>isZ (zBU C (ent M i) (rqL ps))) && !isZ (zBU C y (rqL ps)))=ans:=⟨_,rfl⟩;have HA:=xgv hans;rw[hans];clear hrw hF hm hb hx hp hps hM hy hl hk hce hans e2 f2 g2 k2;go_enter Tryz.func20,Tryz.ntmps20;go_upto_region 1 with(fail)
 refine zB ?_;intro W0 hW0;obtain⟨hB0,T3,T5,hs0⟩:=qH hW0;obtain⟨c1,c2,c3,c4,c5,c6⟩:=T3.three;clear hW0;go_wp2_with fail
 refine(yF _ R C M W0 (HM.out.below hB0)).mono ?_;rintro e1 w1 ⟨rfl,hb1⟩;rw[hdv];have T3:=T3.below hb1;have T5:=T5.below hb1;have hB:=nx hB0 hb1;clear c1 c2 c3 c4 c5 c6 hdv;go_wp2_with fail
 refine(zAN _ _ w1 (HB.out.below hB)).mono ?_;rintro e2 w2 ⟨rfl,hb2⟩;have T3:=T3.below hb2;have T5:=T5.below hb2;have hB:=nx hB hb2;obtain⟨c1,c2,c3,c4,c5,c6⟩:=T3.three;obtain⟨d1,d2,d3,d4,d5,d6⟩:=T5.three;go_wp2_with fail
 refine(zF4 xo yo 0 xc C yc w2).mono ?_;rintro e3 w3 ⟨rfl,hb3⟩;have T3:=T3.below hb3;have hB:=nx hB hb3;clear c1 c2 c3 c4 c5 c6 d1 d2 d3 d4 d5 d6 T5;obtain⟨c1,c2,c3,c4,c5,c6⟩:=T3.three;rw[if_pos rfl];have hta:=zEU;have htb:=zET;go_upto_region 9 with(fail)
 refine zE rfl (RV w3 _ [E 0 43 (.slice yo C yc),VN 1 44 C,VP 2 45 w.heap.size 1,VN 3 46 C,E 4 47 (.bool true),E 5 48 (.bool true),E 6 49 (.slice yo C yc),E 7 50 (.agg #[.int .i64 R,.int .i64 C,.slice ao R acap]),E 8 51 (.slice bo C bc),E 9 52 (.bool ans),E 10 53 (.bool ans),E 11 6 (.bool ans)]) kR RV.start (RV.fin kR ?fin1) ?steps1
 case steps1=>
  (repeat' constructor)<;>(intro L T wS hL hd hcl hI K hK;try refine zA rfl ?_)
  ·exact xgs (hI.k 8 rfl kR)
  ·have zt0:=hI.e mm0 (hd 0)
   go_simp;refine(zFH yo C yc _).mono ?_;rintro e wa ⟨v,rfl,hv,hba⟩;exact hK _ _ ((hI.world hba).y mm1 hv)
  ·exact xgs (hI.k 3 rfl kR)
  ·have zt2:=hI.e mm2 (hd 2)
   have cc0:=hI.cell c2;exact xgu
  ·exact xgt (hI.e mm1 (hd 1)) (hI.e mm3 (hd 3))
  ·exact xgs (hI.e mm4 (hd 4))
  ·have zg:=hI.e mm5 (hd 5)
   refine zA xgp ?_;exact xgs (hI.k 8 rfl kR)
  ·have zg:=hI.e mm5 (hd 5)
   refine zA xgp ?_;have zt:=hI.k 3 rfl kR;have cc0:=hI.cell c1;have cc1:=hI.cell c2;have cc2:=hI.cell c3;exact xgu
  ·have zg:=hI.e mm5 (hd 5)
   refine zA xgp ?_;exact xgs (hI.k 1 rfl kR)
  ·have zg:=hI.e mm5 (hd 5)
   refine zA xgp ?_;have zt6:=hI.e mm6 (hd 6);have zt7:=hI.e mm7 (hd 7);have zt8:=hI.e mm8 (hd 8);go_simp;refine(HA.out ▸ zIJ (e:=e) (h:=h) _ _ _ R C M y ps _ (HM.out.below (nx hB hI.bel)) HF.out (HB.out.below (nx hB hI.bel)) (HP.out.below (nx hB hI.bel)) HL.out hC HPB.out HMB.out HYB.out hh he).mono ?_;rintro e wa ⟨v,rfl,hv,hba⟩;exact hK _ _ ((hI.world hba).y mm9 hv)
  ·exact xgt (hI.e mm5 (hd 5)) (hI.e mm9 (hd 9))
  ·exact xgs (hI.e zAB (hd 10))
 intro w4 hbw4 T hT;simp only[Fin,E,EI,VP,VSl,VN,xgg,xgh,xgi,xgj]at hT;subst hT;go_wp2;go_ret;exact⟨_,rfl,rfl,nx hB hbw4⟩
theorem zJR(v bv:Value)(R C:Nat)(M:List (List Int))(zs:List Int)(w:World)(hm:jE w v R C M)(hF:jT R C M)(hb:qN w bv zs)(hne:zs.length≠C):
  Calls Tryz.prog 18 #[v,bv] w fun e w'=>e= .returned (.tuple #[.agg #[.bool false,.slice none 0 0,.slice none 0 0],.int .i64 50])/\Below w.heap.size w w':=by
 have HM:=xgv hm;obtain⟨Av,rfl,hrw⟩:=id hm;obtain⟨ao,n,acap,rfl,e2,e3,e4,-⟩:=id hrw;obtain rfl:R=n:=by rw[<-e2,hF.1]
 obtain⟨bo,bn,bc,rfl,f2,f3,f4,-⟩:=id hb;have hdv:decide (qX R C M)=true:=decide_eq_true hF.valid;have hbn:¬ (bn:Int)=(C:Int):=by omega
 clear hm hrw hb hF e2 f2 hne;go_enter Tryz.func18,Tryz.ntmps18;go_upto_region 1 with(fail)
 refine zB ?_;intro W0 hW0;obtain⟨hB0,T2,T4,hs0⟩:=qH hW0;obtain⟨c1,c2,c3,c4,c5,c6⟩:=T2.three;clear hW0;go_wp2_with fail
 refine(yF _ R C M W0 (HM.out.below hB0)).mono ?_;rintro e w1 ⟨rfl,hb1⟩;rw[hdv];have T2:=T2.below hb1;have T4:=T4.below hb1;have hB:=nx hB0 hb1;clear c1 c2 c3 c4 c5 c6;obtain⟨c1,c2,c3,c4,c5,c6⟩:=T2.three;obtain⟨d1,d2,d3,d4,d5,d6⟩:=T4.three;have lt4:=T4.lt;go_wp2;refine bodyPost_ret (zDi rfl _ rfl (T4.put3 _ _ _) rfl) rfl ⟨rfl,zO (zO (zO hB oM 0 _) oM 1 _) oM 2 _⟩
theorem jS(v:Value)(ls:List Int)(w:World)(h:zBs w v ls)(hn:ls.length<=1000):
  Calls Tryz.prog 61 #[v] w fun e w'=>∃u,e= .returned u/\qN w' u ls/\Below w.heap.size w w':=by
 obtain⟨ao,n,cap,rfl,h2,h3,h4,-,-⟩:=id h;have H:=xgv h;have HL:=xgv h2;have hn1:n<=1000:=by omega
 have HG:qE (zY 1 n (fun i j=>ls.getD (i*n+j) 0)= [ls]):=⟨by
  have:zM ls.length (fun i=>ls.getD i 0)=ls:=by
   refine List.ext_getElem (by simp[zM]) fun j h1 h2=>?_
   simp[zM,xgb,h2]
  rw[h2]at this;conv=>rhs;rw[<-this]
  simp[zY,zM,Nat.zero_mul,Nat.zero_add]⟩
 clear h h2 hn;go_enter Tryz.func61,Tryz.ntmps61;go_wp2_with fail
 refine(zMl _ ls 1 n _ _ [ls] w H.out rfl rfl (by rw[HL.out];omega) oM hn1 HG.out).mono ?_;rintro e w1 ⟨u,rfl,hm,hb1⟩;obtain⟨A2,rfl,hA2⟩:=hm;obtain⟨oo,nn,kk,rfl,hn1,-⟩:=id hA2;obtain rfl:1=nn:=hn1;obtain⟨bb,ra,rn,rc,zs,rfl,hbl,hz,p1,hrv⟩:=hA2.row (k:=0) (Nat.zero_lt_one);obtain rfl:ls=zs:=Option.some.inj hz;have HRV:=xgv hrv;have hfl:=zDU;clear hA2 hrv hz;go_wp2;go_ret;exact⟨_,rfl,HRV.out,hb1⟩
theorem zFv(mv bv xv yv:Value)(R C:Nat)(M:List (List Int))(y:Nat->Int)(xs:List Int)(ps:List (Int × Int))(w:World)(hm:jE w mv R C M)(hF:jT R C M)(hb:qN w bv (zM C y))(hx:qN w xv xs)(hp:jY w yv ps)(hk:ps.length≠0):
  Calls Tryz.prog 20 #[mv,bv,.agg #[.bool true,xv,yv]] w fun e w'=>∃u,e= .returned u/\u= .bool (zEx R C (ent M) y xs ps.length)/\Below w.heap.size w w':=by
 have HM:=xgv hm;obtain⟨Av,rfl,hrw⟩:=id hm;obtain⟨ao,mn,acap,rfl,e2,e3,e4,-⟩:=id hrw;obtain rfl:R=mn:=by rw[<-e2,hF.1]
 have HF:=xgv hF;have HB:=xgv hb;have HX:=xgv hx;obtain⟨bo,bn,bc,rfl,f2,f3,f4,-⟩:=id hb;obtain rfl:C=bn:=by rw[<-f2,zD]
 obtain⟨xo,xn,xc,rfl,g2,g3,g4,-⟩:=id hx;obtain⟨yo,yn,yc,rfl,k2,k3,k4,-⟩:=id hp;have hyn:yn≠0:=by omega
 have hdv:decide (qX R C M)=true:=decide_eq_true hF.valid;have hce:zEx R C (ent M) y xs ps.length=false:=by
  unfold zEx;rw[decide_eq_false hk];simp
 rw[hce];clear hrw hF hm hb hx hp hk hce e2 f2 g2 k2;go_enter Tryz.func20,Tryz.ntmps20;go_upto_region 1 with(fail)
 refine zB ?_;intro W0 hW0;obtain⟨hB0,T3,T5,hs0⟩:=qH hW0;obtain⟨c1,c2,c3,c4,c5,c6⟩:=T3.three;clear hW0;go_wp2_with fail
 refine(yF _ R C M W0 (HM.out.below hB0)).mono ?_;rintro e1 w1 ⟨rfl,hb1⟩;rw[hdv];have T3:=T3.below hb1;have T5:=T5.below hb1;have hB:=nx hB0 hb1;clear c1 c2 c3 c4 c5 c6 hdv;go_wp2_with fail
 refine(zAN _ _ w1 (HB.out.below hB)).mono ?_;rintro e2 w2 ⟨rfl,hb2⟩;have T3:=T3.below hb2;have T5:=T5.below hb2;have hB:=nx hB hb2;obtain⟨c1,c2,c3,c4,c5,c6⟩:=T3.three;obtain⟨d1,d2,d3,d4,d5,d6⟩:=T5.three;go_wp2_with fail
 refine(zDV xo yo xn xc yn yc w2).mono ?_;rintro e3 w3 ⟨rfl,hb3⟩;have T3:=T3.below hb3;have hB:=nx hB hb3;clear c1 c2 c3 c4 c5 c6 d1 d2 d3 d4 d5 d6 T5;obtain⟨c1,c2,c3,c4,c5,c6⟩:=T3.three;rw[if_neg hyn];have hta:=zDt;have htb:=zDu;go_wp2;go_ret;exact⟨_,rfl,rfl,hB⟩
theorem zHj(mv bv xv yv:Value)(R C:Nat)(M:List (List Int))(y:Nat->Int)(xs:List Int)(ps:List (Int × Int))(w:World)(hm:jE w mv R C M)(hF:jT R C M)(hb:qN w bv (zM C y))(hx:qN w xv xs)(hp:jY w yv ps)(hk:xs.length≠0):
  Calls Tryz.prog 20 #[mv,bv,.agg #[.bool false,xv,yv]] w fun e w'=>∃u,e= .returned u/\u= .bool (zE2 R C (ent M) y xs.length ps)/\Below w.heap.size w w':=by
 have HM:=xgv hm;obtain⟨Av,rfl,hrw⟩:=id hm;obtain⟨ao,mn,acap,rfl,e2,e3,e4,-⟩:=id hrw;obtain rfl:R=mn:=by rw[<-e2,hF.1]
 have HF:=xgv hF;have HB:=xgv hb;have HX:=xgv hx;obtain⟨bo,bn,bc,rfl,f2,f3,f4,-⟩:=id hb;obtain rfl:C=bn:=by rw[<-f2,zD]
 obtain⟨xo,xn,xc,rfl,g2,g3,g4,-⟩:=id hx;obtain⟨yo,yn,yc,rfl,k2,k3,k4,-⟩:=id hp;have hyn:xn≠0:=by omega
 have hdv:decide (qX R C M)=true:=decide_eq_true hF.valid;have hce:zE2 R C (ent M) y xs.length ps=false:=by
  unfold zE2;rw[decide_eq_false hk];simp
 rw[hce];clear hrw hF hm hb hx hp hk hce e2 f2 g2 k2;go_enter Tryz.func20,Tryz.ntmps20;go_upto_region 1 with(fail)
 refine zB ?_;intro W0 hW0;obtain⟨hB0,T3,T5,hs0⟩:=qH hW0;obtain⟨c1,c2,c3,c4,c5,c6⟩:=T3.three;clear hW0;go_wp2_with fail
 refine(yF _ R C M W0 (HM.out.below hB0)).mono ?_;rintro e1 w1 ⟨rfl,hb1⟩;rw[hdv];have T3:=T3.below hb1;have T5:=T5.below hb1;have hB:=nx hB0 hb1;clear c1 c2 c3 c4 c5 c6 hdv;go_wp2_with fail
 refine(zAN _ _ w1 (HB.out.below hB)).mono ?_;rintro e2 w2 ⟨rfl,hb2⟩;have T3:=T3.below hb2;have T5:=T5.below hb2;have hB:=nx hB hb2;obtain⟨c1,c2,c3,c4,c5,c6⟩:=T3.three;obtain⟨d1,d2,d3,d4,d5,d6⟩:=T5.three;go_wp2_with fail
 refine(zF4 xo yo xn xc yn yc w2).mono ?_;rintro e3 w3 ⟨rfl,hb3⟩;have T3:=T3.below hb3;have hB:=nx hB hb3;clear c1 c2 c3 c4 c5 c6 d1 d2 d3 d4 d5 d6 T5;obtain⟨c1,c2,c3,c4,c5,c6⟩:=T3.three;rw[if_neg hyn];have hta:=zDt;have htb:=zDu;go_wp2;go_ret;exact⟨_,rfl,rfl,hB⟩
theorem zFu(mv bv xv yv:Value)(R C:Nat)(M:List (List Int))(y:Nat->Int)(xs:List Int)(ps:List (Int × Int))(w:World)(hm:jE w mv R C M)(hF:jT R C M)(hb:qN w bv (zM C y))(hx:qN w xv xs)(hp:jY w yv ps)(hl:xs.length≠R)(hk:ps.length=0):
  Calls Tryz.prog 20 #[mv,bv,.agg #[.bool true,xv,yv]] w fun e w'=>∃u,e= .returned u/\u= .bool (zEx R C (ent M) y xs ps.length)/\Below w.heap.size w w':=by
 have HM:=xgv hm;obtain⟨Av,rfl,hrw⟩:=id hm;obtain⟨ao,mn,acap,rfl,e2,e3,e4,-⟩:=id hrw;obtain rfl:R=mn:=by rw[<-e2,hF.1]
 have HF:=xgv hF;have HB:=xgv hb;have HX:=xgv hx;obtain⟨bo,bn,bc,rfl,f2,f3,f4,-⟩:=id hb;obtain rfl:C=bn:=by rw[<-f2,zD]
 obtain⟨xo,xn,xc,rfl,g2,g3,g4,-⟩:=id hx;obtain⟨yo,yn,yc,rfl,k2,k3,k4,-⟩:=id hp;obtain rfl:yn=0:=by omega
 have hxn:((xn:Int)==(R:Int))=false:=beq_eq_false_iff_ne.2 oM;have hdv:decide (qX R C M)=true:=decide_eq_true hF.valid;have hce:zEx R C (ent M) y xs ps.length=false:=by
  unfold zEx;rw[decide_eq_false hl];simp
 rw[hce];clear hrw hF hm hb hx hp hl hk hce e2 f2 g2 k2;go_enter Tryz.func20,Tryz.ntmps20;go_upto_region 1 with(fail)
 refine zB ?_;intro W0 hW0;obtain⟨hB0,T3,T5,hs0⟩:=qH hW0;obtain⟨c1,c2,c3,c4,c5,c6⟩:=T3.three;clear hW0;go_wp2_with fail
 refine(yF _ R C M W0 (HM.out.below hB0)).mono ?_;rintro e1 w1 ⟨rfl,hb1⟩;rw[hdv];have T3:=T3.below hb1;have T5:=T5.below hb1;have hB:=nx hB0 hb1;clear c1 c2 c3 c4 c5 c6 hdv;go_wp2_with fail
 refine(zAN _ _ w1 (HB.out.below hB)).mono ?_;rintro e2 w2 ⟨rfl,hb2⟩;have T3:=T3.below hb2;have T5:=T5.below hb2;have hB:=nx hB hb2;obtain⟨c1,c2,c3,c4,c5,c6⟩:=T3.three;obtain⟨d1,d2,d3,d4,d5,d6⟩:=T5.three;go_wp2_with fail
 refine(zDV xo yo xn xc 0 yc w2).mono ?_;rintro e3 w3 ⟨rfl,hb3⟩;have T3:=T3.below hb3;have hB:=nx hB hb3;clear c1 c2 c3 c4 c5 c6 d1 d2 d3 d4 d5 d6 T5;obtain⟨c1,c2,c3,c4,c5,c6⟩:=T3.three;rw[if_pos rfl];have hta:=zEV;go_upto_region 6 with(fail)
 refine zE rfl (RV w3 _ [E 0 29 (.slice xo xn xc),VN 1 30 xn,VP 2 31 w.heap.size 0,VN 3 32 R,E 4 33 (.bool false),E 5 34 (.bool false),E 6 35 (undef),E 7 36 (undef),E 8 37 (undef),E 9 38 (undef),E 10 39 (.bool false),E 11 6 (.bool false)]) kR RV.start (RV.fin kR ?fin1) ?steps1
 case steps1=>
  (repeat' constructor)<;>(intro L T wS hL hd hcl hI K hK;try refine zA rfl ?_)
  ·exact xgs (hI.k 7 rfl kR)
  ·have zt0:=hI.e mm0 (hd 0)
   go_simp;refine(zFg xo xn xc _).mono ?_;rintro e wa ⟨v,rfl,hv,hba⟩;exact hK _ _ ((hI.world hba).y mm1 hv)
  ·exact xgs (hI.k 3 rfl kR)
  ·have zt2:=hI.e mm2 (hd 2)
   have cc0:=hI.cell c1;exact xgu
  ·exact xgt (hI.e mm1 (hd 1)) (hI.e mm3 (hd 3))
  ·exact xgs (hI.e mm4 (hd 4))
  ·have zg:=hI.e mm5 (hd 5)
   refine qD xgp ?_;exact hK _ _ (hI.y mm6 rfl)
  ·have zg:=hI.e mm5 (hd 5)
   refine qD xgp ?_;exact hK _ _ (hI.y mm7 rfl)
  ·have zg:=hI.e mm5 (hd 5)
   refine qD xgp ?_;exact hK _ _ (hI.y mm8 rfl)
  ·have zg:=hI.e mm5 (hd 5)
   refine qD xgp ?_;exact hK _ _ (hI.y mm9 rfl)
  ·exact xgt (hI.e mm5 (hd 5)) (hI.e mm9 (hd 9))
  ·exact xgs (hI.e zAB (hd 10))
 intro w4 hbw4 T hT;simp only[Fin,E,EI,VP,VSl,VN,xgg,xgh,xgi,xgj]at hT;subst hT;go_wp2;go_ret;exact⟨_,rfl,rfl,nx hB hbw4⟩
theorem zHi(mv bv xv yv:Value)(R C:Nat)(M:List (List Int))(y:Nat->Int)(xs:List Int)(ps:List (Int × Int))(w:World)(hm:jE w mv R C M)(hF:jT R C M)(hb:qN w bv (zM C y))(hx:qN w xv xs)(hp:jY w yv ps)(hl:xs.length=0)(hk:ps.length≠C):
  Calls Tryz.prog 20 #[mv,bv,.agg #[.bool false,xv,yv]] w fun e w'=>∃u,e= .returned u/\u= .bool (zE2 R C (ent M) y xs.length ps)/\Below w.heap.size w w':=by
 have HM:=xgv hm;obtain⟨Av,rfl,hrw⟩:=id hm;obtain⟨ao,mn,acap,rfl,e2,e3,e4,-⟩:=id hrw;obtain rfl:R=mn:=by rw[<-e2,hF.1]
 have HF:=xgv hF;have HB:=xgv hb;have HX:=xgv hx;obtain⟨bo,bn,bc,rfl,f2,f3,f4,-⟩:=id hb;obtain rfl:C=bn:=by rw[<-f2,zD]
 obtain⟨xo,xn,xc,rfl,g2,g3,g4,-⟩:=id hx;obtain⟨yo,yn,yc,rfl,k2,k3,k4,-⟩:=id hp;obtain rfl:xn=0:=by omega
 have hxn:((yn:Int)==(C:Int))=false:=beq_eq_false_iff_ne.2 oM;have hdv:decide (qX R C M)=true:=decide_eq_true hF.valid;have hce:zE2 R C (ent M) y xs.length ps=false:=by
  unfold zE2;rw[decide_eq_false hk];simp
 rw[hce];clear hrw hF hm hb hx hp hl hk hce e2 f2 g2 k2;go_enter Tryz.func20,Tryz.ntmps20;go_upto_region 1 with(fail)
 refine zB ?_;intro W0 hW0;obtain⟨hB0,T3,T5,hs0⟩:=qH hW0;obtain⟨c1,c2,c3,c4,c5,c6⟩:=T3.three;clear hW0;go_wp2_with fail
 refine(yF _ R C M W0 (HM.out.below hB0)).mono ?_;rintro e1 w1 ⟨rfl,hb1⟩;rw[hdv];have T3:=T3.below hb1;have T5:=T5.below hb1;have hB:=nx hB0 hb1;clear c1 c2 c3 c4 c5 c6 hdv;go_wp2_with fail
 refine(zAN _ _ w1 (HB.out.below hB)).mono ?_;rintro e2 w2 ⟨rfl,hb2⟩;have T3:=T3.below hb2;have T5:=T5.below hb2;have hB:=nx hB hb2;obtain⟨c1,c2,c3,c4,c5,c6⟩:=T3.three;obtain⟨d1,d2,d3,d4,d5,d6⟩:=T5.three;go_wp2_with fail
 refine(zF4 xo yo 0 xc yn yc w2).mono ?_;rintro e3 w3 ⟨rfl,hb3⟩;have T3:=T3.below hb3;have hB:=nx hB hb3;clear c1 c2 c3 c4 c5 c6 d1 d2 d3 d4 d5 d6 T5;obtain⟨c1,c2,c3,c4,c5,c6⟩:=T3.three;rw[if_pos rfl];have hta:=zEU;have htb:=zET;go_upto_region 9 with(fail)
 refine zE rfl (RV w3 _ [E 0 43 (.slice yo yn yc),VN 1 44 yn,VP 2 45 w.heap.size 1,VN 3 46 C,E 4 47 (.bool false),E 5 48 (.bool false),E 6 49 (undef),E 7 50 (undef),E 8 51 (undef),E 9 52 (undef),E 10 53 (.bool false),E 11 6 (.bool false)]) kR RV.start (RV.fin kR ?fin2) ?steps2
 case steps2=>
  (repeat' constructor)<;>(intro L T wS hL hd hcl hI K hK;try refine zA rfl ?_)
  ·exact xgs (hI.k 8 rfl kR)
  ·have zt0:=hI.e mm0 (hd 0)
   go_simp;refine(zFH yo yn yc _).mono ?_;rintro e wa ⟨v,rfl,hv,hba⟩;exact hK _ _ ((hI.world hba).y mm1 hv)
  ·exact xgs (hI.k 3 rfl kR)
  ·have zt2:=hI.e mm2 (hd 2)
   have cc0:=hI.cell c2;exact xgu
  ·exact xgt (hI.e mm1 (hd 1)) (hI.e mm3 (hd 3))
  ·exact xgs (hI.e mm4 (hd 4))
  ·have zg:=hI.e mm5 (hd 5)
   refine qD xgp ?_;exact hK _ _ (hI.y mm6 rfl)
  ·have zg:=hI.e mm5 (hd 5)
   refine qD xgp ?_;exact hK _ _ (hI.y mm7 rfl)
  ·have zg:=hI.e mm5 (hd 5)
   refine qD xgp ?_;exact hK _ _ (hI.y mm8 rfl)
  ·have zg:=hI.e mm5 (hd 5)
   refine qD xgp ?_;exact hK _ _ (hI.y mm9 rfl)
  ·exact xgt (hI.e mm5 (hd 5)) (hI.e mm9 (hd 9))
  ·exact xgs (hI.e zAB (hd 10))
 intro w4 hbw4 T hT;simp only[Fin,E,EI,VP,VSl,VN,xgg,xgh,xgi,xgj]at hT;subst hT;go_wp2;go_ret;exact⟨_,rfl,rfl,nx hB hbw4⟩
theorem zMJ{R C:Nat}{A:Nat->Nat->Int}{y x:Nat->Int}:zEx R C A y (zM R x) 0=decide (zM C (fun j=>qF R fun i=>x i*A i j)=zM C y):=by
 have e:zM C (fun j=>qF R fun i=>(zM R x).getD i 0*A i j)=zM C (fun j=>qF R fun i=>x i*A i j):=zQ fun j _=>zS fun i hi=>by rw[zA5 hi]
 unfold zEx;rw[zD,e];simp
theorem zGj{R C:Nat}{A:Nat->Nat->Int}{y x:Nat->Int}(h:zJ9 R C A y x):zEx R C A y (zM R x) 0=true:=by
 rw[zMJ,decide_eq_true_eq];exact zQ fun j hj=>(h j hj).symm
theorem zLe{C t:Nat}{q:Nat->Rat}(ht:t<C):rqL (zAC C fun t=>prQ (q t)) t=q t:=by
 unfold rqL;rw[xgb,zAj ht];exact Rat.num_divInt_den _
theorem zMx{C:Nat}{q:Nat->Rat}:zC3 (zAC C fun t=>prQ (q t))=true:=List.all_eq_true.2 fun p hp=>by
 obtain⟨t,-,rfl⟩:=List.mem_map.1 hp;exact zOa _
theorem zFO{C:Nat}{v:Nat->Int}{p q:Nat->Rat}(h:∀j,j<C->p j=q j):zBU C v p=zBU C v q:=qI fun j hj=>by rw[h j hj]
theorem zN5{n:Nat}{f:Nat->Bool}:((List.range n).all f=true)↔∀i,i<n->f i=true:=by
 rw[List.all_eq_true];exact⟨fun h i hi=>h i (List.mem_range.2 hi),fun h i hi=>h i (List.mem_range.1 hi)⟩
theorem zId{R C k:Nat}{A:Nat->Nat->Int}{y:Nat->Int}{ps:List (Int × Int)}:zE2 R C A y k ps=true↔k=0/\ps.length=C/\zC3 ps=true/\zL8 R C A y (rqL ps):=by
 unfold zE2 zL8;rw[Bool.and_eq_true,Bool.and_eq_true,Bool.and_eq_true,Bool.and_eq_true,decide_eq_true_eq,decide_eq_true_eq,zN5,Bool.not_eq_true'];exact⟨fun h=>⟨h.1.1.1,h.1.1.2.1,h.1.1.2.2,h.1.2,h.2⟩,fun h=>⟨⟨⟨h.1,h.2.1,h.2.2.1⟩,h.2.2.2.1⟩,h.2.2.2.2⟩⟩
theorem zGk{R C:Nat}{A:Nat->Nat->Int}{y:Nat->Int}{q:Nat->Rat}(h:zL8 R C A y q):zE2 R C A y 0 (zAC C fun t=>prQ (q t))=true:=
 zId.2 ⟨rfl,qG _ _,zMx,fun i hi=>by rw[zFO fun j hj=>zLe hj];exact h.1 i hi,by rw[zFO fun j hj=>zLe hj];exact h.2⟩
theorem zIP{R C:Nat}{A:Nat->Nat->Int}{x:Nat->Int}(hR:R<=4)(hA:leM 1000 R C A)(hx:∀i,i<R->(x i).natAbs<2^(6*E40)){j:Nat}(hj:j<C){k:Nat}(hk:k<R):
  Sm (x k)/\Sm (A k j)/\Sm (x k*A k j)/\Sm (qF k fun t=>x t*A t j):=by
 have hp:2^(6*E40)*4096<=BD:=by
  rw[zKF,show(4096:Nat)=2^12 from rfl,<-Nat.pow_add];exact zCK (by have:=zEM;rw[zAR];omega)
 obtain⟨P,hP⟩:∃P,2^(6*E40)=P:=⟨_,rfl⟩;obtain⟨B,hB⟩:∃B,BD=B:=⟨_,rfl⟩;have hs:∀z:Int,z.natAbs<B->Sm z:=fun z h=>zNy (hB ▸ h)
 rw[hP]at hp hx;rw[hB]at hp;have hm:∀t,t<R->(x t*A t j).natAbs<=(P-1)*1000:=fun t ht=>by
  rw[Int.natAbs_mul];exact Nat.mul_le_mul (by have:=hx t ht;omega) (hA t ht j hj)
 have h1:=hx k hk;have h2:=hA k hk j hj;have h3:=hm k hk;have h4:=zJE (n:=k) (f:=fun t=>x t*A t j) fun t ht=>hm t oM
 have h5:k*((P-1)*1000)<=4*((P-1)*1000):=Nat.mul_le_mul_right _ oM;exact⟨hs _ oM,hs _ oM,hs _ oM,hs _ oM⟩
theorem zHO{R C:Nat}{M:List (List Int)}{x:Nat->Int}(hR:R<=4)(hA:leM 1000 R C (ent M))(hx:∀i,i<R->(x i).natAbs<2^(6*E40)):zCd [zM R fun i=>(zM R x).getD i 0] M 1 R C:=by
 rw[zQ fun i hi=>zA5 hi];intro i hi j hj k hk;obtain rfl:i=0:=by omega
 have e:∀k,k<R->ent [zM R x] 0 k=x k:=fun k hk=>zBE rfl (zP hk)
 have h1:=zIP hR hA hx hj hk;rw[e k hk];refine⟨h1.1,h1.2.1,h1.2.2.1,?_⟩;unfold zC6;rw[zDk,zS fun t ht=>by rw[e t oM]];exact h1.2.2.2
theorem zIQ{R C:Nat}{M:List (List Int)}{x:Nat->Int}(hR:R<=4)(hA:leM 1000 R C (ent M))(hx:∀i,i<R->(x i).natAbs<2^(6*E40)):zBu (zM R x) M R C:=fun j hj t ht=>by
 have h1:=zIP hR hA hx hj ht;rw[zA5 ht,zGL,zS fun i hi=>by rw[zA5 oM]];exact h1
def zMI(f:Bool)(R C:Nat)(A:Nat->Nat->Int)(y:Nat->Int)(xs:List Int)(ps:List (Int × Int)):Bool:=if f=true then zEx R C A y xs ps.length else zE2 R C A y xs.length ps
theorem zFI{e h:Nat}(f:Bool)(mv bv xv yv:Value)(R C:Nat)(M:List (List Int))(y:Nat->Int)(xs:List Int)(ps:List (Int × Int))(w:World)(hm:jE w mv R C M)(hF:jT R C M)(hb:qN w bv (zM C y))(hx:qN w xv xs)(hp:jY w yv ps)(hR:R<=1000)(hC:C<=1000)
  (hS:xs.length=R->zBu xs M R C) (hps:∀p∈ps,p.1.natAbs<2^e/\p.2.natAbs<2^e) (hM:∀a,a<R->∀b,b<C->(ent M a b).natAbs<2^h) (hy:∀j,j<C->(y j).natAbs<2^h) (hh:1<=h) (he:e+h+1<=900):
  Calls Tryz.prog 20 #[mv,bv,.agg #[.bool f,xv,yv]] w fun e w'=>∃u,e= .returned u/\u= .bool (zMI f R C (ent M) y xs ps)/\Below w.heap.size w w':=by
 cases f
 ·by_cases h1:xs.length=0
  ·by_cases h2:ps.length=C
   ·exact zFJ mv bv xv yv R C M y xs ps w hm hF hb hx hp hC hps hM hy hh he h1 h2
   ·exact zHi mv bv xv yv R C M y xs ps w hm hF hb hx hp h1 h2
  ·exact zHj mv bv xv yv R C M y xs ps w hm hF hb hx hp h1
 ·by_cases h1:ps.length=0
  ·by_cases h2:xs.length=R
   ·exact zDv mv bv xv yv R C M y xs ps w hm hF hb hx hp hR hC hS h2 h1
   ·exact zFu mv bv xv yv R C M y xs ps w hm hF hb hx hp h2 h1
  ·exact zFv mv bv xv yv R C M y xs ps w hm hF hb hx hp h1
theorem zG6{e h:Nat}(f:Bool)(mv bv xv yv:Value)(R C:Nat)(M:List (List Int))(y:Nat->Int)(xs:List Int)(ps:List (Int × Int))(w:World)(hm:jE w mv R C M)(hF:jT R C M)(hb:qN w bv (zM C y))(hx:qN w xv xs)(hp:jY w yv ps)(hR:R<=1000)(hC:C<=1000)
  (hS:zCd [zM R fun i=>xs.getD i 0] M 1 R C) (hps:∀p∈ps,p.1.natAbs<2^e/\p.2.natAbs<2^e) (hM:∀a,a<R->∀b,b<C->(ent M a b).natAbs<2^h) (hy:∀j,j<C->(y j).natAbs<2^h) (hh:1<=h) (he:e+h+1<=900):
  Calls Tryz.prog 19 #[mv,bv,.agg #[.bool f,xv,yv]] w fun e w'=>∃u,e= .returned u/\u= .bool (zMI f R C (ent M) y xs ps)/\Below w.heap.size w w':=by
 cases f
 ·exact zD2 mv bv xv yv R C M y xs ps w hm hF hb hx hp hR hC hps hM hy hh he
 ·exact zCZ mv bv xv yv R C M y xs ps w hm hF hb hx hp hR hC hS
theorem zMz{z:Int}(h:z.natAbs<=1000000):z.natAbs<2^20:=Nat.lt_of_le_of_lt h dE
theorem zLN{C e:Nat}{q:Nat->Rat}(h:∀t,t<C->HQ e (q t)):∀p∈zAC C fun t=>prQ (q t),p.1.natAbs<2^e/\p.2.natAbs<2^e:=fun p hp=>by
 obtain⟨t,ht,rfl⟩:=List.mem_map.1 hp;exact h t (List.mem_range.1 ht)
theorem zGP(mv bv u:Value)(R C:Nat)(M:List (List Int))(y:Nat->Int)(w:World)(hs:zER R C (ent M) y w u)(hm:jE w mv R C M)(hF:jT R C M)(hb:qN w bv (zM C y))(hR:R<=4)(hC:C<=4)(hA:leM 1000 R C (ent M))(hy:∀j,j<C->(y j).natAbs<=1000000):
  Calls Tryz.prog 19 #[mv,bv,u] w fun e w'=>∃u,e= .returned u/\u= .bool true/\Below w.heap.size w w':=by
 rcases hs with⟨xv,x,rfl,hx,h1,h2⟩|⟨yv,q,rfl,hp,h1,h2⟩
 ·have:=zCZ mv bv xv (.slice none 0 0) R C M y _ [] w hm hF hb hx (jY.nil w) oM oM (zHO hR hA h2)
  rwa[show zEx R C (ent M) y (zM R x) ([]:List (Int × Int)).length=true from zGj h1]at this
 ·have:=zD2 (e:=170) (h:=20) mv bv (.slice none 0 0) yv R C M y [] _ w hm hF hb (qN.nil w) hp oM oM (zLN h2) (fun a ha b hb=>zMz (Nat.le_trans (hA a ha b hb) dE)) (fun j hj=>zMz (hy j hj)) dE dE
  rwa[show zE2 R C (ent M) y ([]:List Int).length (zAC C fun t=>prQ (q t))=true from zGk h1]at this
theorem zLp(mv bv u:Value)(R C:Nat)(M:List (List Int))(y:Nat->Int)(w:World)(hs:zER R C (ent M) y w u)(hm:jE w mv R C M)(hF:jT R C M)(hb:qN w bv (zM C y))(hR:R<=4)(hC:C<=4)(hA:leM 1000 R C (ent M))(hy:∀j,j<C->(y j).natAbs<=1000000):
  Calls Tryz.prog 20 #[mv,bv,u] w fun e w'=>∃u,e= .returned u/\u= .bool true/\Below w.heap.size w w':=by
 rcases hs with⟨xv,x,rfl,hx,h1,h2⟩|⟨yv,q,rfl,hp,h1,h2⟩
 ·have:=zDv mv bv xv (.slice none 0 0) R C M y _ [] w hm hF hb hx (jY.nil w) oM oM (fun _=>zIQ hR hA h2) (zD _ _) rfl
  rwa[show zEx R C (ent M) y (zM R x) ([]:List (Int × Int)).length=true from zGj h1]at this
 ·have:=zFJ (e:=170) (h:=20) mv bv (.slice none 0 0) yv R C M y [] _ w hm hF hb (qN.nil w) hp oM (zLN h2) (fun a ha b hb=>zMz (Nat.le_trans (hA a ha b hb) dE)) (fun j hj=>zMz (hy j hj)) dE dE rfl (qG _ _)
  rwa[show zE2 R C (ent M) y ([]:List Int).length (zAC C fun t=>prQ (q t))=true from zGk h1]at this
def lf(l:List Int)(j:Nat):Int:=l.getD j 0
theorem zHq{l:List Int}{n:Nat}(h:l.length=n):zM n (lf l)=l:=by
 subst h;exact zGu l
theorem zMu{l:List Int}{h:Nat}(hl:(l.all fun z=>decide (z.natAbs<=h))=true)(j:Nat):(lf l j).natAbs<=h:=by
 unfold lf;rw[xgb];rcases hj:l[j]? with _|z
 ·exact Nat.zero_le _
 ·exact of_decide_eq_true (List.all_eq_true.1 hl z (xgd hj))
def zFo(f:Bool)(R C:Nat)(A:Nat->Nat->Int)(y:Nat->Int)(w:World)(v:Value):Prop:=∃o n k o' n' k',v= .agg #[.bool f,.slice o n k,.slice o' n' k']/\zER R C A y w v
def zL9(f:Bool)(R C:Nat)(A:Nat->Nat->Int)(y:Nat->Int)(w:World)(v:Value):Prop:=∃u,v= .tuple #[u,.int .i64 0]/\zFo f R C A y w u
theorem zFo.below{f:Bool}{R C:Nat}{A:Nat->Nat->Int}{y:Nat->Int}{w w':World}{v:Value}(h:zFo f R C A y w v)(hb:Below w.heap.size w w'):zFo f R C A y w' v:=by
 obtain⟨o,n,k,o',n',k',e,h1⟩:=h;exact⟨o,n,k,o',n',k',e,h1.below hb⟩
theorem zCi(f:Bool)(R C:Nat)(A:Nat->Nat->Int)(y:Nat->Int):qK (zFo f R C A y):=fun _ _ _ e h=>h.below e
theorem zCj(f:Bool)(R C:Nat)(A:Nat->Nat->Int)(y:Nat->Int):qK (zL9 f R C A y):=fun _ _ _ e ⟨u,h1,h2⟩=>⟨u,h1,h2.below e⟩
theorem zER.off3{R C:Nat}{A:Nat->Nat->Int}{y:Nat->Int}{w:World}{u:Value}(h:zER R C A y w u){b:Nat}{T:TypeId}{cs:Array Value}(hb:Blk w b T cs)(hT:¬ T=tQ)(hI:¬ T=tI)(hU:T≠tU)(x1 x2 x3:Value):zER R C A y (((w.setCell ⟨b,0,none⟩ x1).setCell ⟨b,1,none⟩ x2).setCell ⟨b,2,none⟩ x3) u:=by
 rcases h with⟨xv,x,e,h1,h2⟩|⟨yv,q,e,h1,h2⟩
 ·exact .inl ⟨xv,x,e,h1.off3 hb hI hU _ _ _,h2⟩
 ·exact .inr ⟨yv,q,e,h1.off3 hb hT hU _ _ _,h2⟩
theorem zER.kind{f:Bool}{R C:Nat}{A:Nat->Nat->Int}{y:Nat->Int}{w:World}{u:Value}(h:zER R C A y w u)(hf:f=true↔∃x,zJ9 R C A y x):zFo f R C A y w u:=by
 rcases id h with⟨xv,x,rfl,hx,h1,-⟩|⟨yv,q,rfl,hp,h1,-⟩
 ·obtain rfl:f=true:=hf.2 ⟨x,h1⟩
  obtain⟨o,n,k,rfl,-⟩:=id hx;exact⟨_,_,_,_,_,_,rfl,h⟩
 ·obtain rfl:f=false:=by
   cases f
   ·rfl
   ·obtain⟨x,hx⟩:=hf.1 rfl
    exact(zGO hx h1).elim
  obtain⟨o,n,k,rfl,-⟩:=id hp;exact⟨_,_,_,_,_,_,rfl,h⟩
theorem zFz(f:Bool)(ls:List Int)(v bv:Value)(R C:Nat)(M:List (List Int))(w:World)(hm:jE w v R C M)(hF:jT R C M)(hb:qN w bv ls)(hl:ls.length=C)(hR:R<=4)(hC:C<=4)(hA:leM 9 R C (ent M))(hy:(ls.all fun z=>decide (z.natAbs<=1000000))=true)(hf:f=true↔∃x,zJ9 R C (ent M) (lf ls) x):
  Calls Tryz.prog 18 #[v,bv] w fun e w'=>∃u,e= .returned u/\zL9 f R C (ent M) (lf ls) w' u/\Below w.heap.size w w':=
 (zFP v bv R C M (lf ls) w hm hF (by rw[zHq hl];exact hb) hR hC hA fun j _=>zMu hy j).mono fun e w' ⟨u,he,hs,hb⟩=>⟨_,he,⟨u,rfl,hs.kind hf⟩,hb⟩
theorem zPr(f:Nat->Int):qF 1 f=f 0:=by simp[qF]
theorem zO2(f:Nat->Int):qF 2 f=f 0+f 1:=by simp[qF]
theorem zQT(f:Nat->Int):qF 3 f=f 0+f 1+f 2:=by simp[qF]
theorem zKT{r:Nat}{c:Nat->Nat}{H U V:Nat->Nat->Int}(h:zBe 3 1 r c (ent [[6],[10],[15]]) H U V):leM 644972544 3 1 H:=fun i hi j hj=>by
 obtain rfl:j=0:=by omega
 have hr:r<=1:=h.hnf.ech.le;by_cases g:r<=i
 ·rw[h.hnf.zero i g hi 0 dE]
  decide
 ·obtain rfl:i=0:=by omega
  have h1:=h.back 0 dE 0 dE;rw[zQT,h.hnf.zero 1 hr dE 0 dE,h.hnf.zero 2 oM dE 0 dE,show ent [[6],[10],[15]] 0 0=6 from rfl]at h1;have h2:H 0 0∣6:=⟨V 0 0,by rw[h1,Int.mul_comm];omega⟩;have h3:=Nat.le_of_dvd dE (Int.natAbs_dvd_natAbs.2 h2);have h4:(6:Int).natAbs=6:=rfl;omega
theorem zOF(v bv:Value)(w:World)(hm:jE w v (3:Nat) (1:Nat) [[6],[10],[15]])(hb:qN w bv [1]):
  Calls Tryz.prog 18 #[v,bv] w fun e w'=>∃u,e= .returned u/\zL9 true 3 1 (ent [[6],[10],[15]]) (lf [1]) w' u/\Below w.heap.size w w':=
 (zFQ (M0:=15) dE dE v bv 3 1 [[6],[10],[15]] (lf [1]) w hm ⟨rfl,by simp⟩ hb dE dE (zDX dE ⟨rfl,by simp⟩) (fun r c H U V h=>zKT h) fun j _=>zMu dE j).mono fun e w' ⟨u,he,hs,hb⟩=>⟨_,he,⟨u,rfl,hs.kind ⟨fun _=>⟨lf [-14,7,1],fun j hj=>by
  obtain rfl:j=0:=by omega
  decide⟩,fun _=>rfl⟩⟩,hb⟩
theorem zPa:true=true↔∃x,zJ9 2 2 (ent [[2,0],[0,3]]) (lf [4,3]) x:=⟨fun _=>⟨lf [2,1],show ∀j,j<2->_ by decide⟩,fun _=>rfl⟩
theorem zPb:false=true↔∃x,zJ9 2 2 (ent [[2,0],[0,3]]) (lf [1,0]) x:=⟨nofun,fun⟨x,h⟩=>by
 have h0:=h 0 dE;rw[zO2,show lf [1,0] 0=1 from rfl,show ent [[2,0],[0,3]] 0 0=2 from rfl,show ent [[2,0],[0,3]] 1 0=0 from rfl]at h0;omega⟩
theorem zPc:false=true↔∃x,zJ9 1 2 (ent [[1,1]]) (lf [1,2]) x:=⟨nofun,fun⟨x,h⟩=>by
 have h0:=h 0 dE;have h1:=h 1 dE;rw[zPr,show lf [1,2] 0=1 from rfl,show ent [[1,1]] 0 0=1 from rfl]at h0;rw[zPr,show lf [1,2] 1=2 from rfl,show ent [[1,1]] 0 1=1 from rfl]at h1;omega⟩
theorem zPd:true=true↔∃x,zJ9 0 0 (ent []) (lf []) x:=⟨fun _=>⟨lf [],fun j hj=>by omega⟩,fun _=>rfl⟩
theorem zFo.vec{w:World}{o o':Option Addr}{n k n' k':Nat}(h:zFo true 2 2 (ent [[2,0],[0,3]]) (lf [4,3]) w (.agg #[.bool true,.slice o n k,.slice o' n' k'])):qN w (.slice o n k) [2,1]:=by
 obtain⟨-,-,-,-,-,-,-,h⟩:=h;rcases h with⟨xv,x,e,hx,h1,-⟩|⟨yv,q,e,-⟩
 ·obtain rfl:xv= .slice o n k:=by
   injection e with e
   injection e with e
   injection e with e1 e
   injection e with e2 e
   exact e2.symm
  have h0:=h1 0 dE;have h2:=h1 1 dE;rw[zO2,show lf [4,3] 0=4 from rfl,show ent [[2,0],[0,3]] 0 0=2 from rfl,show ent [[2,0],[0,3]] 1 0=0 from rfl]at h0;rw[zO2,show lf [4,3] 1=3 from rfl,show ent [[2,0],[0,3]] 0 1=0 from rfl,show ent [[2,0],[0,3]] 1 1=3 from rfl]at h2;have e1:zM 2 x= [x 0,x 1]:=rfl;rw[e1,show x 0=2 by omega,show x 1=1 by omega]at hx;exact hx
 ·injection e with e
  injection e with e
  injection e with e1 e
  injection e1 with e1
  cases e1
theorem zNM(v1 v2:Value)(xs:List Int)(w:World)(h1:qN w v1 xs)(h2:qN w v2 xs):
  Calls Tryz.prog 65 #[v1,v2] w fun e w'=>∃u,e= .returned u/\u= .bool true/\Below w.heap.size w w':=
 (zCr v1 v2 xs xs w h1 h2).mono fun e w' ⟨h,hb⟩=>⟨_,h,by rw[decide_eq_true rfl],hb⟩
theorem zOs{w:World}{b:Nat}{s1 s2 s3 s4:Bool}{a1 a2 a3 a4:Option Addr}{l1 l2 l3 l4 k1 k2 k3 k4:Nat}{p q:Rat}(hb:Blk w b tQ #[.bool s1,.slice a1 l1 k1,.bool s2,.slice a2 l2 k2,.bool s3,.slice a3 l3 k3,.bool s4,.slice a4 l4 k4])
  (h1:jN w (.agg #[.bool s1,.slice a1 l1 k1,.bool s2,.slice a2 l2 k2]) p) (h2:jN w (.agg #[.bool s3,.slice a3 l3 k3,.bool s4,.slice a4 l4 k4]) q):jY w (.slice (some ⟨b,0,none⟩) 2 2) [prQ p,prQ q]:=by
 obtain⟨_,_,_,_,_,_,_,_,e1,i1,i2⟩:=h1;obtain⟨_,_,_,_,_,_,_,_,e2,i3,i4⟩:=h2;cases e1;cases e2;refine⟨_,2,2,rfl,rfl,xgf _,by decide,fun _=>⟨b,rfl,_,hb,fun k r hk=>?_⟩⟩;rcases k with _|_|k
 ·obtain rfl:prQ p=r:=by simpa using hk
  exact⟨_,_,_,_,_,_,_,_,rfl,rfl,rfl,rfl,i1,i2⟩
 ·obtain rfl:prQ q=r:=by simpa using hk
  exact⟨_,_,_,_,_,_,_,_,rfl,rfl,rfl,rfl,i3,i4⟩
 ·simp at hk
theorem zMa: [prQ (Rat.divInt 1 2),prQ ((0:Int):Rat)]= [(1,2),(0,1)]:=by decide+kernel
theorem zHh(ans:Bool)(ls:List Int)(ps:List (Int × Int))(mv bv yv:Value)(w:World)(hm:jE w mv (2:Nat) (2:Nat) [[2,0],[0,3]])(hb:qN w bv ls)(hl:ls.length=2)(hp:jY w yv ps)(hps:(ps.all fun p=>decide (p.1.natAbs<2^20/\p.2.natAbs<2^20))=true)(hy:(ls.all fun z=>decide (z.natAbs<=1000000))=true)(ha:zMI false 2 2 (ent [[2,0],[0,3]]) (lf ls) [] ps=ans):
  Calls Tryz.prog 20 #[mv,bv,.agg #[.bool false,.slice none 0 0,yv]] w fun e w'=>∃u,e= .returned u/\u= .bool ans/\Below w.heap.size w w':=
 ha ▸ zFI (e:=20) (h:=20) false mv bv (.slice none 0 0) yv 2 2 _ (lf ls) [] ps w hm ⟨rfl,by simp⟩ (by rw[zHq hl];exact hb) (qN.nil w) hp dE dE (fun h=>absurd h dE) (fun p hp=>of_decide_eq_true (List.all_eq_true.1 hps p hp)) dE (fun j _=>zMz (zMu hy j)) dE dE
theorem zMb:zMI false 2 2 (ent [[2,0],[0,3]]) (lf [1,0]) [] [(1,2),(0,1)]=true:=by decide+kernel
theorem zOQ:zMI false 2 2 (ent [[2,0],[0,3]]) (lf [2,0]) [] [(1,2),(0,1)]=false:=by decide+kernel
theorem zOl:zMI false 2 2 (ent [[2,0],[0,3]]) (lf [4,3]) [] []=false:=by decide+kernel
theorem zQl(R C:Nat)(M:List (List Int))(ls:List Int)(mv bv u:Value)(w:World)(hs:zFo false R C (ent M) (lf ls) w u)(hm:jE w mv R C M)(hF:jT R C M)(hb:qN w bv ls)(hl:ls.length=C)(hR:R<=4)(hC:C<=4)(hA:leM 1000 R C (ent M))(hy:(ls.all fun z=>decide (z.natAbs<=1000000))=true):
  Calls Tryz.prog 19 #[mv,bv,u] w fun e w'=>∃u,e= .returned u/\u= .bool true/\Below w.heap.size w w':=by
 obtain⟨-,-,-,-,-,-,-,hs⟩:=hs;exact zGP mv bv u R C M (lf ls) w hs hm hF (by rw[zHq hl];exact hb) hR hC hA fun j _=>zMu hy j
theorem zBL{W w:World}(h:qU [] W w):Below W.heap.size W w:=⟨h.bel.os,h.bel.tape,h.bel.output,h.bel.size,fun k hk=>h.old k hk sI⟩
theorem zFj{f:Bool}{R C:Nat}{A:Nat->Nat->Int}{y:Nat->Int}{w:World}{v:Value}(h:zL9 f R C A y w v):∃o n k o' n' k',v= .tuple #[.agg #[.bool f,.slice o n k,.slice o' n' k'],.int .i64 0]/\zFo f R C A y w (.agg #[.bool f,.slice o n k,.slice o' n' k']):=by
 obtain⟨u,rfl,o,n,k,o',n',k',rfl,h⟩:=h;exact⟨o,n,k,o',n',k',rfl,o,n,k,o',n',k',rfl,h⟩
theorem zHI(w:World):Calls Tryz.prog 14 #[] w fun e w'=>e= .returned (.bool true)/\Below w.heap.size w w':=by
 go_enter Tryz.func14,Tryz.ntmps14;have hB:=Below.refl w.heap.size w;go_wp2_with fail
 refine(zMl _ [2,0,0,3] 2 2 _ _ [[2,0],[0,3]] _ (zBs.new _ [2,0,0,3] dE dE) (by rfl) (by rfl) (by rfl) oM oM (by rfl)).mono ?_;rintro e wa ⟨v1,rfl,hm,hb1⟩;have hB:=nxa hB hb1;obtain⟨wao,wan,wak,rfl⟩:=hm.agg;have HM:=xgv hm;clear hm;go_wp2_with fail
 refine(zMl _ [1,1] 1 2 _ _ [[1,1]] _ (zBs.new _ [1,1] dE dE) (by rfl) (by rfl) (by rfl) oM oM (by rfl)).mono ?_;rintro e wb ⟨v1,rfl,hm,hb1⟩;have hB:=nxa hB hb1;obtain⟨wbo,wbn,wbk,rfl⟩:=hm.agg;have hb1:=nxd hb1;have HM:=xgv (HM.out.below hb1);have HL:=xgv hm;clear hm;go_upto_region 2 with(fail)
 refine zB ?_;intro W1 hW1;obtain⟨hB1,b1,b2,hsW1⟩:=qH hW1;have hB:=nx hB hB1;have HM:=xgv (HM.out.below hB1);have HL:=xgv (HL.out.below hB1);clear hW1;have hl43:=zAy [4,3];have hl10:=zAy [1,0];have hl12:=zAy [1,2];have hv43:=qZ [4,3];have hv10:=qZ [1,0];have hv12:=qZ [1,2];have hP2:=zCj true 2 2 (ent [[2,0],[0,3]]) (lf [4,3]);have hG2:=zCi true 2 2 (ent [[2,0],[0,3]]) (lf [4,3]);have hN2:=zAz 39 W1.heap.size #[.bool false,.slice none 0 0,.slice none 0 0];obtain⟨c1,c2,c3,-,-,-⟩:=b1.three;have ltb:=b1.lt;refine zC 9 rfl (RAS ([]) 99 W1 _ [⟨0,23,fun _ v=>v= .agg #[.int .i64 (2:Nat),.int .i64 (2:Nat),.slice wao wan wak]⟩,⟨1,24,fun w v=>zBs w v [4,3]⟩,⟨2,25,fun w v=>qN w v [4,3]⟩,⟨3,26,zL9 true 2 2 (ent [[2,0],[0,3]]) (lf [4,3])⟩,⟨4,22,zL9 true 2 2 (ent [[2,0],[0,3]]) (lf [4,3])⟩,⟨5,27,zFo true 2 2 (ent [[2,0],[0,3]]) (lf [4,3])⟩,⟨6,28,fun _ v=>v= .int .i64 0⟩,⟨7,3,zNk 39 W1.heap.size #[.bool false,.slice none 0 0,.slice none 0 0]⟩] 8 (put3 3 27)) kR (RAS.start (RA.start kR (by repeat' (first|exact yL _|exact jC _|exact jD _ _ _|exact qZ _|assumption|refine xgm.2 ⟨?_,?_⟩|exact xgn _)))) ?fin1 ?steps1
 case steps1=>
  refine⟨?_,?_,?_,?_,?_,?_,?_,?_,?_,trivial⟩
  ·refine zF.liftA kR dE ?_
   intro L T wS hL hd hcl hI K hK;try refine zA rfl ?_
   have zt:T[1]?=some (.pointer (some ⟨wb.heap.size,0,none⟩)):=hI.keep 1 sI;have cc0:=hI.cell (sI) oM c1;have cc1:=hI.cell (sI) oM c2;have cc2:=hI.cell (sI) oM c3;go_simp;exact hK _ _ (hI.y mm0 rfl)
  ·refine zF.liftA kR dE ?_
   intro L T wS hL hd hcl hI K hK;try refine zA rfl ?_
   go_simp;exact hK _ _ ((hI.world ((Below.refl _ _).alloc (xgf _) _)).y mm1 (zBs.new _ [4,3] dE dE))
  ·refine zF.liftA kR dE ?_
   intro L T wS hL hd hcl hI K hK;try refine zA rfl ?_
   obtain⟨z1,zt1,hz1⟩:=hI.v mm1 (hd 1);go_simp;refine(jS _ [4,3] _ hz1 dE).mono ?_;rintro e wa ⟨v,rfl,hv,hba⟩;exact hK _ _ ((hI.world hba).y mm2 hv)
  ·refine zF.liftA kR dE ?_
   intro L T wS hL hd hcl hI K hK;try refine zA rfl ?_
   obtain⟨_,zt0,rfl⟩:=hI.v mm0 (hd 0);obtain⟨z2,zt2,hz2⟩:=hI.v mm2 (hd 2);have hbS:=zBL hI.onl;go_simp;refine(zFz true [4,3] _ _ 2 2 [[2,0],[0,3]] _ (HM.out.below hbS) ⟨rfl,by simp⟩ hz2 rfl dE dE (zDX dE ⟨rfl,by simp⟩) dE zPa).mono ?_;rintro e wa ⟨v,rfl,hv,hba⟩;exact hK _ _ ((hI.world hba).y mm3 hv)
  ·refine zF.liftA kR dE ?_
   intro L T wS hL hd hcl hI K hK;try refine zA rfl ?_
   obtain⟨z3,zt3,hz3⟩:=hI.v mm3 (hd 3);go_simp;exact hK _ _ (hI.y mm4 hz3)
  ·refine zF.liftA kR dE ?_
   intro L T wS hL hd hcl hI K hK;try refine zA rfl ?_
   obtain⟨z4,zt4,hz4⟩:=hI.v mm4 (hd 4);obtain⟨u,rfl,hu⟩:=hz4;go_simp;exact hK _ _ (hI.y mm5 hu)
  ·intro L T wS hL hd hcl hI K hK
   try refine zA rfl ?_
   obtain⟨w0,hJ,-,-⟩:=id hI;obtain⟨z4,zt4,hz4⟩:=hJ.val _ mm4 (hd 4);obtain⟨u,rfl,hu⟩:=hz4;go_simp;exact hK _ _ (hI.pure ⟨6,28,_⟩ mm6 rfl (fun _=>rfl) dE (fun _=>zEE dE dE))
  ·refine zF.liftA kR dE ?_
   intro L T wS hL hd hcl hI K hK;try refine zA rfl ?_
   go_simp;exact hK _ _ ((hI.world ((Below.refl _ _).alloc (xgf _) _)).y mm7 ⟨_,rfl,hI.onl.bel.size,Blk.new _ _ _⟩)
  ·intro L T wS hL hd hcl hI K hK
   try refine zA rfl ?_
   replace hI:=hI.here hL;obtain⟨z11,zt11,hz11⟩:=hI.v mm5 (hd 5);obtain⟨z13,zt13,hz13⟩:=hI.v mm7 (hd 7);obtain⟨vo,vn,vc,uo,un,uc,rfl,-⟩:=hz11;obtain⟨b7,rfl,-,T7⟩:=hz13;obtain⟨f1,f2,f3,f4,f5,f6⟩:=T7.three;go_simp;exact hK _ _ (RAS.store hI hL (by repeat' (first|exact xgn _|refine xgm.2 ⟨by dsimp only;decide,?_⟩)) dE (zB6 zt13 zt11).symm)
 intro T x2f hJ;obtain⟨x2,hI,-,hstx2⟩:=hJ;replace hstx2:=hstx2 kR;obtain⟨va0,q0,rfl⟩:=hI.v mm0 rfl;obtain⟨va1,q1,ha1⟩:=hI.v mm1 rfl;obtain⟨va2,q2,ha2⟩:=hI.v mm2 rfl;obtain⟨va3,q3,ha3⟩:=hI.v mm3 rfl;obtain⟨va4,q4,ha4⟩:=hI.v mm4 rfl;obtain⟨va5,q5,ha5⟩:=hI.v mm5 rfl;obtain⟨va6,q6,rfl⟩:=hI.v mm6 rfl;obtain⟨va7,q7,ha7⟩:=hI.v mm7 rfl;have hT:=zAJ [(23,.agg #[.int .i64 (2:Nat),.int .i64 (2:Nat),.slice wao wan wak]),(24,va1),(25,va2),(26,va3),(22,va4),(27,va5),(28,.int .i64 0),(3,va7)]
  (fun j hj=>hI.keep j (by simp only[xgm]at hj ⊢;simp[hj]))
  (by simp only[xgm];simp[q0,q1,q2,q3,q4,q5,q6,q7]) hI.size
 have hox2:=hI.onl;clear hI;simp only[List.foldl_cons,List.foldl_nil,xgh,xgi,xgj,ptr]at hT;subst hT;clear q0 q1 q2 q3 q4 q5 q6 q7;simp only[xgl,xgk];have hbw2:=zBL hox2;replace ha5:zFo true 2 2 (ent [[2,0],[0,3]]) (lf [4,3]) x2 va5:=ha5;obtain⟨o2,n2,k2,o2',n2',k2',rfl,hs2⟩:=id ha5;obtain⟨g2,rfl,hg2,T2⟩:=ha7;have q2:=hbw2.size;have hw2:=hstx2.trans (zB6 rfl rfl);have b2x:Blk x2f g2 39 #[.bool true,.slice o2 n2 k2,.slice o2' n2' k2']:=by rw[hw2];exact T2.put3 _ _ _
 have hbf2:Below W1.heap.size W1 x2f:=by
  rw[hw2];exact zO (zO (zO hbw2 oM 0 _) oM 1 _) oM 2 _
 have hs2:zER 2 2 (ent [[2,0],[0,3]]) (lf [4,3]) x2f (.agg #[.bool true,.slice o2 n2 k2,.slice o2' n2' k2']):=by
  rw[hw2];exact hs2.off3 T2 dE dE dE _ _ _
 have HA:=xgv (show zFo true 2 2 (ent [[2,0],[0,3]]) (lf [4,3]) x2f (.agg #[.bool true,.slice o2 n2 k2,.slice o2' n2' k2']) from⟨_,_,_,_,_,_,rfl,hs2⟩);have hB:=nx hB hbf2;have HM:=xgv (HM.out.below hbf2);have HL:=xgv (HL.out.below hbf2);have b1:=b1.below hbf2;have b2:=b2.below hbf2;clear c1 c2 c3 ha5 T2 hw2 hstx2 hox2 hbw2 hs2 hP2 hG2 hN2;go_upto_region 3 with(fail)
 have hP3:=zCj false 2 2 (ent [[2,0],[0,3]]) (lf [1,0]);have hG3:=zCi false 2 2 (ent [[2,0],[0,3]]) (lf [1,0]);have hN3:=zAz 39 x2f.heap.size #[.bool false,.slice none 0 0,.slice none 0 0];obtain⟨c1,c2,c3,-,-,-⟩:=b1.three;have ltb:=b1.lt;refine zC 9 rfl (RAS ([]) 99 x2f _ [⟨0,30,fun _ v=>v= .agg #[.int .i64 (2:Nat),.int .i64 (2:Nat),.slice wao wan wak]⟩,⟨1,31,fun w v=>zBs w v [1,0]⟩,⟨2,32,fun w v=>qN w v [1,0]⟩,⟨3,33,zL9 false 2 2 (ent [[2,0],[0,3]]) (lf [1,0])⟩,⟨4,29,zL9 false 2 2 (ent [[2,0],[0,3]]) (lf [1,0])⟩,⟨5,34,zFo false 2 2 (ent [[2,0],[0,3]]) (lf [1,0])⟩,⟨6,35,fun _ v=>v= .int .i64 0⟩,⟨7,5,zNk 39 x2f.heap.size #[.bool false,.slice none 0 0,.slice none 0 0]⟩] 8 (put3 5 34)) kR (RAS.start (RA.start kR (by repeat' (first|exact yL _|exact jC _|exact jD _ _ _|exact qZ _|assumption|refine xgm.2 ⟨?_,?_⟩|exact xgn _)))) ?fin2 ?steps2
 case steps2=>
  refine⟨?_,?_,?_,?_,?_,?_,?_,?_,?_,trivial⟩
  ·refine zF.liftA kR dE ?_
   intro L T wS hL hd hcl hI K hK;try refine zA rfl ?_
   have zt:T[1]?=some (.pointer (some ⟨wb.heap.size,0,none⟩)):=hI.keep 1 sI;have cc0:=hI.cell (sI) oM c1;have cc1:=hI.cell (sI) oM c2;have cc2:=hI.cell (sI) oM c3;go_simp;exact hK _ _ (hI.y mm0 rfl)
  ·refine zF.liftA kR dE ?_
   intro L T wS hL hd hcl hI K hK;try refine zA rfl ?_
   go_simp;exact hK _ _ ((hI.world ((Below.refl _ _).alloc (xgf _) _)).y mm1 (zBs.new _ [1,0] dE dE))
  ·refine zF.liftA kR dE ?_
   intro L T wS hL hd hcl hI K hK;try refine zA rfl ?_
   obtain⟨z1,zt1,hz1⟩:=hI.v mm1 (hd 1);go_simp;refine(jS _ [1,0] _ hz1 dE).mono ?_;rintro e wa ⟨v,rfl,hv,hba⟩;exact hK _ _ ((hI.world hba).y mm2 hv)
  ·refine zF.liftA kR dE ?_
   intro L T wS hL hd hcl hI K hK;try refine zA rfl ?_
   obtain⟨_,zt0,rfl⟩:=hI.v mm0 (hd 0);obtain⟨z2,zt2,hz2⟩:=hI.v mm2 (hd 2);have hbS:=zBL hI.onl;go_simp;refine(zFz false [1,0] _ _ 2 2 [[2,0],[0,3]] _ (HM.out.below hbS) ⟨rfl,by simp⟩ hz2 rfl dE dE (zDX dE ⟨rfl,by simp⟩) dE zPb).mono ?_;rintro e wa ⟨v,rfl,hv,hba⟩;exact hK _ _ ((hI.world hba).y mm3 hv)
  ·refine zF.liftA kR dE ?_
   intro L T wS hL hd hcl hI K hK;try refine zA rfl ?_
   obtain⟨z3,zt3,hz3⟩:=hI.v mm3 (hd 3);go_simp;exact hK _ _ (hI.y mm4 hz3)
  ·refine zF.liftA kR dE ?_
   intro L T wS hL hd hcl hI K hK;try refine zA rfl ?_
   obtain⟨z4,zt4,hz4⟩:=hI.v mm4 (hd 4);obtain⟨u,rfl,hu⟩:=hz4;go_simp;exact hK _ _ (hI.y mm5 hu)
  ·intro L T wS hL hd hcl hI K hK
   try refine zA rfl ?_
   obtain⟨w0,hJ,-,-⟩:=id hI;obtain⟨z4,zt4,hz4⟩:=hJ.val _ mm4 (hd 4);obtain⟨u,rfl,hu⟩:=hz4;go_simp;exact hK _ _ (hI.pure ⟨6,35,_⟩ mm6 rfl (fun _=>rfl) dE (fun _=>zEE dE dE))
  ·refine zF.liftA kR dE ?_
   intro L T wS hL hd hcl hI K hK;try refine zA rfl ?_
   go_simp;exact hK _ _ ((hI.world ((Below.refl _ _).alloc (xgf _) _)).y mm7 ⟨_,rfl,hI.onl.bel.size,Blk.new _ _ _⟩)
  ·intro L T wS hL hd hcl hI K hK
   try refine zA rfl ?_
   replace hI:=hI.here hL;obtain⟨z11,zt11,hz11⟩:=hI.v mm5 (hd 5);obtain⟨z13,zt13,hz13⟩:=hI.v mm7 (hd 7);obtain⟨vo,vn,vc,uo,un,uc,rfl,-⟩:=hz11;obtain⟨b7,rfl,-,T7⟩:=hz13;obtain⟨f1,f2,f3,f4,f5,f6⟩:=T7.three;go_simp;exact hK _ _ (RAS.store hI hL (by repeat' (first|exact xgn _|refine xgm.2 ⟨by dsimp only;decide,?_⟩)) dE (zB6 zt13 zt11).symm)
 intro T x3f hJ;obtain⟨x3,hI,-,hstx3⟩:=hJ;replace hstx3:=hstx3 kR;obtain⟨va0,q0,rfl⟩:=hI.v mm0 rfl;obtain⟨va1,q1,ha1⟩:=hI.v mm1 rfl;obtain⟨va2,q2,ha2⟩:=hI.v mm2 rfl;obtain⟨va3,q3,ha3⟩:=hI.v mm3 rfl;obtain⟨va4,q4,ha4⟩:=hI.v mm4 rfl;obtain⟨va5,q5,ha5⟩:=hI.v mm5 rfl;obtain⟨va6,q6,rfl⟩:=hI.v mm6 rfl;obtain⟨va7,q7,ha7⟩:=hI.v mm7 rfl;have hT:=zAJ [(30,.agg #[.int .i64 (2:Nat),.int .i64 (2:Nat),.slice wao wan wak]),(31,va1),(32,va2),(33,va3),(29,va4),(34,va5),(35,.int .i64 0),(5,va7)]
  (fun j hj=>hI.keep j (by simp only[xgm]at hj ⊢;simp[hj]))
  (by simp only[xgm];simp[q0,q1,q2,q3,q4,q5,q6,q7]) hI.size
 have hox3:=hI.onl;clear hI;simp only[List.foldl_cons,List.foldl_nil,xgh,xgi,xgj,ptr]at hT;subst hT;clear q0 q1 q2 q3 q4 q5 q6 q7;simp only[xgl,xgk];have hbw3:=zBL hox3;replace ha5:zFo false 2 2 (ent [[2,0],[0,3]]) (lf [1,0]) x3 va5:=ha5;obtain⟨o3,n3,k3,o3',n3',k3',rfl,hs3⟩:=id ha5;obtain⟨g3,rfl,hg3,T3⟩:=ha7;have q3:=hbw3.size;have hw3:=hstx3.trans (zB6 rfl rfl);have b3x:Blk x3f g3 39 #[.bool false,.slice o3 n3 k3,.slice o3' n3' k3']:=by rw[hw3];exact T3.put3 _ _ _
 have hbf3:Below x2f.heap.size x2f x3f:=by
  rw[hw3];exact zO (zO (zO hbw3 oM 0 _) oM 1 _) oM 2 _
 have hs3:zER 2 2 (ent [[2,0],[0,3]]) (lf [1,0]) x3f (.agg #[.bool false,.slice o3 n3 k3,.slice o3' n3' k3']):=by
  rw[hw3];exact hs3.off3 T3 dE dE dE _ _ _
 have HB:=xgv (show zFo false 2 2 (ent [[2,0],[0,3]]) (lf [1,0]) x3f (.agg #[.bool false,.slice o3 n3 k3,.slice o3' n3' k3']) from⟨_,_,_,_,_,_,rfl,hs3⟩);have hB:=nx hB hbf3;have HM:=xgv (HM.out.below hbf3);have HL:=xgv (HL.out.below hbf3);have b1:=b1.below hbf3;have b2:=b2.below hbf3;have HA:=xgv (HA.out.below hbf3);have b2x:=b2x.below hbf3;clear c1 c2 c3 ha5 T3 hw3 hstx3 hox3 hbw3 hs3 hP3 hG3 hN3;go_wp2_with fail
 refine(zMl _ [6,10,15] 3 1 _ _ [[6],[10],[15]] _ (zBs.new _ [6,10,15] dE dE) (by rfl) (by rfl) (by rfl) oM oM (by rfl)).mono ?_;rintro e wc ⟨v1,rfl,hm,hb1⟩;have hB:=nxa hB hb1;obtain⟨wco,wcn,wck,rfl⟩:=hm.agg;have hb1:=nxd hb1;have HM:=xgv (HM.out.below hb1);have HL:=xgv (HL.out.below hb1);have b1:=b1.below hb1;have b2:=b2.below hb1;have HA:=xgv (HA.out.below hb1);have b2x:=b2x.below hb1;have HB:=xgv (HB.out.below hb1);have b3x:=b3x.below hb1;have HC:=xgv hm;clear hm;go_wp2_with fail
 refine(jS _ [1] _ (zBs.new _ [1] dE dE) dE).mono ?_;rintro e wd ⟨v1,rfl,hv,hb1⟩;have hB:=nxa hB hb1;have hb1:=nxd hb1;have HM:=xgv (HM.out.below hb1);have HL:=xgv (HL.out.below hb1);have b1:=b1.below hb1;have b2:=b2.below hb1;have HA:=xgv (HA.out.below hb1);have b2x:=b2x.below hb1;have HB:=xgv (HB.out.below hb1);have b3x:=b3x.below hb1;have HC:=xgv (HC.out.below hb1);have HV:=xgv hv;clear hv;go_wp2_with fail
 refine(zOF _ _ wd HC.out HV.out).mono ?_;rintro e we ⟨_,rfl,hs,hb1⟩;obtain⟨co,cn,ck,co',cn',ck',rfl,-⟩:=zFj hs;have hB:=nx hB hb1;have HM:=xgv (HM.out.below hb1);have HL:=xgv (HL.out.below hb1);have b1:=b1.below hb1;have b2:=b2.below hb1;have HA:=xgv (HA.out.below hb1);have b2x:=b2x.below hb1;have HB:=xgv (HB.out.below hb1);have b3x:=b3x.below hb1;clear hs HV HC;go_upto_region 5 with(fail)
 refine zB ?_;intro W4 hW4;obtain⟨hB4,b4x,hsW4⟩:=zK hW4;have hB:=nx hB hB4;have HM:=xgv (HM.out.below hB4);have HL:=xgv (HL.out.below hB4);have b1:=b1.below hB4;have b2:=b2.below hB4;have HA:=xgv (HA.out.below hB4);have b2x:=b2x.below hB4;have HB:=xgv (HB.out.below hB4);have b3x:=b3x.below hB4;clear hW4;have hP5:=zCj false 1 2 (ent [[1,1]]) (lf [1,2]);have hG5:=zCi false 1 2 (ent [[1,1]]) (lf [1,2]);have hN5:=zAz 39 W4.heap.size #[.bool false,.slice none 0 0,.slice none 0 0];obtain⟨c1,c2,c3,-,-,-⟩:=b2.three;have ltb:=b2.lt;refine zC 9 rfl (RAS ([]) 99 W4 _ [⟨0,45,fun _ v=>v= .agg #[.int .i64 (1:Nat),.int .i64 (2:Nat),.slice wbo wbn wbk]⟩,⟨1,46,fun w v=>zBs w v [1,2]⟩,⟨2,47,fun w v=>qN w v [1,2]⟩,⟨3,48,zL9 false 1 2 (ent [[1,1]]) (lf [1,2])⟩,⟨4,44,zL9 false 1 2 (ent [[1,1]]) (lf [1,2])⟩,⟨5,49,zFo false 1 2 (ent [[1,1]]) (lf [1,2])⟩,⟨6,50,fun _ v=>v= .int .i64 0⟩,⟨7,9,zNk 39 W4.heap.size #[.bool false,.slice none 0 0,.slice none 0 0]⟩] 8 (put3 9 49)) kR (RAS.start (RA.start kR (by repeat' (first|exact yL _|exact jC _|exact jD _ _ _|exact qZ _|assumption|refine xgm.2 ⟨?_,?_⟩|exact xgn _)))) ?fin3 ?steps3
 case steps3=>
  refine⟨?_,?_,?_,?_,?_,?_,?_,?_,?_,trivial⟩
  ·refine zF.liftA kR dE ?_
   intro L T wS hL hd hcl hI K hK;try refine zA rfl ?_
   have zt:T[2]?=some (.pointer (some ⟨wb.heap.size+1,0,none⟩)):=hI.keep 2 sI;have cc0:=hI.cell (sI) oM c1;have cc1:=hI.cell (sI) oM c2;have cc2:=hI.cell (sI) oM c3;go_simp;exact hK _ _ (hI.y mm0 rfl)
  ·refine zF.liftA kR dE ?_
   intro L T wS hL hd hcl hI K hK;try refine zA rfl ?_
   go_simp;exact hK _ _ ((hI.world ((Below.refl _ _).alloc (xgf _) _)).y mm1 (zBs.new _ [1,2] dE dE))
  ·refine zF.liftA kR dE ?_
   intro L T wS hL hd hcl hI K hK;try refine zA rfl ?_
   obtain⟨z1,zt1,hz1⟩:=hI.v mm1 (hd 1);go_simp;refine(jS _ [1,2] _ hz1 dE).mono ?_;rintro e wa ⟨v,rfl,hv,hba⟩;exact hK _ _ ((hI.world hba).y mm2 hv)
  ·refine zF.liftA kR dE ?_
   intro L T wS hL hd hcl hI K hK;try refine zA rfl ?_
   obtain⟨_,zt0,rfl⟩:=hI.v mm0 (hd 0);obtain⟨z2,zt2,hz2⟩:=hI.v mm2 (hd 2);have hbS:=zBL hI.onl;go_simp;refine(zFz false [1,2] _ _ 1 2 [[1,1]] _ (HL.out.below hbS) ⟨rfl,by simp⟩ hz2 rfl dE dE (zDX dE ⟨rfl,by simp⟩) dE zPc).mono ?_;rintro e wa ⟨v,rfl,hv,hba⟩;exact hK _ _ ((hI.world hba).y mm3 hv)
  ·refine zF.liftA kR dE ?_
   intro L T wS hL hd hcl hI K hK;try refine zA rfl ?_
   obtain⟨z3,zt3,hz3⟩:=hI.v mm3 (hd 3);go_simp;exact hK _ _ (hI.y mm4 hz3)
  ·refine zF.liftA kR dE ?_
   intro L T wS hL hd hcl hI K hK;try refine zA rfl ?_
   obtain⟨z4,zt4,hz4⟩:=hI.v mm4 (hd 4);obtain⟨u,rfl,hu⟩:=hz4;go_simp;exact hK _ _ (hI.y mm5 hu)
  ·intro L T wS hL hd hcl hI K hK
   try refine zA rfl ?_
   obtain⟨w0,hJ,-,-⟩:=id hI;obtain⟨z4,zt4,hz4⟩:=hJ.val _ mm4 (hd 4);obtain⟨u,rfl,hu⟩:=hz4;go_simp;exact hK _ _ (hI.pure ⟨6,50,_⟩ mm6 rfl (fun _=>rfl) dE (fun _=>zEE dE dE))
  ·refine zF.liftA kR dE ?_
   intro L T wS hL hd hcl hI K hK;try refine zA rfl ?_
   go_simp;exact hK _ _ ((hI.world ((Below.refl _ _).alloc (xgf _) _)).y mm7 ⟨_,rfl,hI.onl.bel.size,Blk.new _ _ _⟩)
  ·intro L T wS hL hd hcl hI K hK
   try refine zA rfl ?_
   replace hI:=hI.here hL;obtain⟨z11,zt11,hz11⟩:=hI.v mm5 (hd 5);obtain⟨z13,zt13,hz13⟩:=hI.v mm7 (hd 7);obtain⟨vo,vn,vc,uo,un,uc,rfl,-⟩:=hz11;obtain⟨b7,rfl,-,T7⟩:=hz13;obtain⟨f1,f2,f3,f4,f5,f6⟩:=T7.three;go_simp;exact hK _ _ (RAS.store hI hL (by repeat' (first|exact xgn _|refine xgm.2 ⟨by dsimp only;decide,?_⟩)) dE (zB6 zt13 zt11).symm)
 intro T x5f hJ;obtain⟨x5,hI,-,hstx5⟩:=hJ;replace hstx5:=hstx5 kR;obtain⟨va0,q0,rfl⟩:=hI.v mm0 rfl;obtain⟨va1,q1,ha1⟩:=hI.v mm1 rfl;obtain⟨va2,q2,ha2⟩:=hI.v mm2 rfl;obtain⟨va3,q3,ha3⟩:=hI.v mm3 rfl;obtain⟨va4,q4,ha4⟩:=hI.v mm4 rfl;obtain⟨va5,q5,ha5⟩:=hI.v mm5 rfl;obtain⟨va6,q6,rfl⟩:=hI.v mm6 rfl;obtain⟨va7,q7,ha7⟩:=hI.v mm7 rfl;have hT:=zAJ [(45,.agg #[.int .i64 (1:Nat),.int .i64 (2:Nat),.slice wbo wbn wbk]),(46,va1),(47,va2),(48,va3),(44,va4),(49,va5),(50,.int .i64 0),(9,va7)]
  (fun j hj=>hI.keep j (by simp only[xgm]at hj ⊢;simp[hj]))
  (by simp only[xgm];simp[q0,q1,q2,q3,q4,q5,q6,q7]) hI.size
 have hox5:=hI.onl;clear hI;simp only[List.foldl_cons,List.foldl_nil,xgh,xgi,xgj,ptr]at hT;subst hT;clear q0 q1 q2 q3 q4 q5 q6 q7;simp only[xgl,xgk];have hbw5:=zBL hox5;replace ha5:zFo false 1 2 (ent [[1,1]]) (lf [1,2]) x5 va5:=ha5;obtain⟨o5,n5,k5,o5',n5',k5',rfl,hs5⟩:=id ha5;obtain⟨g5,rfl,hg5,T5⟩:=ha7;have q5:=hbw5.size;have hw5:=hstx5.trans (zB6 rfl rfl);have b5x:Blk x5f g5 39 #[.bool false,.slice o5 n5 k5,.slice o5' n5' k5']:=by rw[hw5];exact T5.put3 _ _ _
 have hbf5:Below W4.heap.size W4 x5f:=by
  rw[hw5];exact zO (zO (zO hbw5 oM 0 _) oM 1 _) oM 2 _
 have hs5:zER 1 2 (ent [[1,1]]) (lf [1,2]) x5f (.agg #[.bool false,.slice o5 n5 k5,.slice o5' n5' k5']):=by
  rw[hw5];exact hs5.off3 T5 dE dE dE _ _ _
 have HD:=xgv (show zFo false 1 2 (ent [[1,1]]) (lf [1,2]) x5f (.agg #[.bool false,.slice o5 n5 k5,.slice o5' n5' k5']) from⟨_,_,_,_,_,_,rfl,hs5⟩);have hB:=nx hB hbf5;have HM:=xgv (HM.out.below hbf5);have HL:=xgv (HL.out.below hbf5);have b1:=b1.below hbf5;have b2:=b2.below hbf5;have HA:=xgv (HA.out.below hbf5);have b2x:=b2x.below hbf5;have HB:=xgv (HB.out.below hbf5);have b3x:=b3x.below hbf5;have b4x:=b4x.below hbf5;clear c1 c2 c3 ha5 T5 hw5 hstx5 hox5 hbw5 hs5 hP5 hG5 hN5;go_upto_region 6 with(fail)
 obtain⟨c1,c2,c3,-,-,-⟩:=b2.three;have ltb:=b2.lt;have hl1:=zAy [1];have hv1:=qZ [1];have hN6:=zAz 39 x5f.heap.size #[.bool false,.slice none 0 0,.slice none 0 0];refine zC 9 rfl (RAS ([]) 99 x5f _ [⟨0,52,fun _ v=>v= .agg #[.int .i64 (1:Nat),.int .i64 (2:Nat),.slice wbo wbn wbk]⟩,⟨1,53,fun w v=>zBs w v [1]⟩,⟨2,54,fun w v=>qN w v [1]⟩,⟨3,55,fun _ v=>v= .tuple #[.agg #[.bool false,.slice none 0 0,.slice none 0 0],.int .i64 50]⟩,⟨4,51,fun _ v=>v= .tuple #[.agg #[.bool false,.slice none 0 0,.slice none 0 0],.int .i64 50]⟩,⟨5,56,fun _ v=>v= .agg #[.bool false,.slice none 0 0,.slice none 0 0]⟩,⟨6,57,fun _ v=>v= .int .i64 50⟩,⟨7,11,zNk 39 x5f.heap.size #[.bool false,.slice none 0 0,.slice none 0 0]⟩] 8 (put3 11 56)) kR (RAS.start (RA.start kR (by repeat' (first|exact yL _|exact jC _|exact jD _ _ _|exact qZ _|assumption|refine xgm.2 ⟨?_,?_⟩|exact xgn _)))) ?fin4 ?steps4
 case steps4=>
  refine⟨?_,?_,?_,?_,?_,?_,?_,?_,?_,trivial⟩
  ·refine zF.liftA kR dE ?_
   intro L T wS hL hd hcl hI K hK;try refine zA rfl ?_
   have zt:T[2]?=some (.pointer (some ⟨wb.heap.size+1,0,none⟩)):=hI.keep 2 sI;have cc0:=hI.cell (sI) oM c1;have cc1:=hI.cell (sI) oM c2;have cc2:=hI.cell (sI) oM c3;go_simp;exact hK _ _ (hI.y mm0 rfl)
  ·refine zF.liftA kR dE ?_
   intro L T wS hL hd hcl hI K hK;try refine zA rfl ?_
   go_simp;exact hK _ _ ((hI.world ((Below.refl _ _).alloc (xgf _) _)).y mm1 (zBs.new _ [1] dE dE))
  ·refine zF.liftA kR dE ?_
   intro L T wS hL hd hcl hI K hK;try refine zA rfl ?_
   obtain⟨z1,zt1,hz1⟩:=hI.v mm1 (hd 1);go_simp;refine(jS _ [1] _ hz1 dE).mono ?_;rintro e wa ⟨v,rfl,hv,hba⟩;exact hK _ _ ((hI.world hba).y mm2 hv)
  ·refine zF.liftA kR dE ?_
   intro L T wS hL hd hcl hI K hK;try refine zA rfl ?_
   obtain⟨_,zt0,rfl⟩:=hI.v mm0 (hd 0);obtain⟨z2,zt2,hz2⟩:=hI.v mm2 (hd 2);have hbS:=zBL hI.onl;go_simp;refine(zJR _ _ 1 2 [[1,1]] [1] _ (HL.out.below hbS) ⟨rfl,by simp⟩ hz2 dE).mono ?_;rintro e wa ⟨rfl,hba⟩;exact hK _ _ ((hI.world hba).y mm3 rfl)
  ·refine zF.liftA kR dE ?_
   intro L T wS hL hd hcl hI K hK;try refine zA rfl ?_
   obtain⟨_,zt3,rfl⟩:=hI.v mm3 (hd 3);go_simp;exact hK _ _ (hI.y mm4 rfl)
  ·refine zF.liftA kR dE ?_
   intro L T wS hL hd hcl hI K hK;try refine zA rfl ?_
   obtain⟨_,zt4,rfl⟩:=hI.v mm4 (hd 4);go_simp;exact hK _ _ (hI.y mm5 rfl)
  ·intro L T wS hL hd hcl hI K hK
   try refine zA rfl ?_
   obtain⟨w0,hJ,-,-⟩:=id hI;obtain⟨_,zt4,rfl⟩:=hJ.val _ mm4 (hd 4);go_simp;exact hK _ _ (hI.pure ⟨6,57,_⟩ mm6 rfl (fun _=>rfl) dE (fun _=>zEE dE dE))
  ·refine zF.liftA kR dE ?_
   intro L T wS hL hd hcl hI K hK;try refine zA rfl ?_
   go_simp;exact hK _ _ ((hI.world ((Below.refl _ _).alloc (xgf _) _)).y mm7 ⟨_,rfl,hI.onl.bel.size,Blk.new _ _ _⟩)
  ·intro L T wS hL hd hcl hI K hK
   try refine zA rfl ?_
   replace hI:=hI.here hL;obtain⟨_,zt11,rfl⟩:=hI.v mm5 (hd 5);obtain⟨z13,zt13,hz13⟩:=hI.v mm7 (hd 7);obtain⟨b7,rfl,-,T7⟩:=hz13;obtain⟨f1,f2,f3,f4,f5,f6⟩:=T7.three;go_simp;exact hK _ _ (RAS.store hI hL (by repeat' (first|exact xgn _|refine xgm.2 ⟨by dsimp only;decide,?_⟩)) dE (zB6 zt13 zt11).symm)
 intro T x6f hJ;obtain⟨x6,hI,-,hstx6⟩:=hJ;replace hstx6:=hstx6 kR;obtain⟨va0,q0,rfl⟩:=hI.v mm0 rfl;obtain⟨va1,q1,ha1⟩:=hI.v mm1 rfl;obtain⟨va2,q2,ha2⟩:=hI.v mm2 rfl;obtain⟨va3,q3,rfl⟩:=hI.v mm3 rfl;obtain⟨va4,q4,rfl⟩:=hI.v mm4 rfl;obtain⟨va5,q5,rfl⟩:=hI.v mm5 rfl;obtain⟨va6,q6,rfl⟩:=hI.v mm6 rfl;obtain⟨va7,q7,ha7⟩:=hI.v mm7 rfl;have hT:=zAJ [(52,.agg #[.int .i64 (1:Nat),.int .i64 (2:Nat),.slice wbo wbn wbk]),(53,va1),(54,va2),(55,.tuple #[.agg #[.bool false,.slice none 0 0,.slice none 0 0],.int .i64 50]),(51,.tuple #[.agg #[.bool false,.slice none 0 0,.slice none 0 0],.int .i64 50]),(56,.agg #[.bool false,.slice none 0 0,.slice none 0 0]),(57,.int .i64 50),(11,va7)]
  (fun j hj=>hI.keep j (by simp only[xgm]at hj ⊢;simp[hj]))
  (by simp only[xgm];simp[q0,q1,q2,q3,q4,q5,q6,q7]) hI.size
 have hox6:=hI.onl;clear hI;simp only[List.foldl_cons,List.foldl_nil,xgh,xgi,xgj,ptr]at hT;subst hT;clear q0 q1 q2 q3 q4 q5 q6 q7;simp only[xgl,xgk];have hbw6:=zBL hox6;obtain⟨g6,rfl,hg6,T6⟩:=ha7;have q6:=hbw6.size;have hw6:=hstx6.trans (zB6 rfl rfl);have hbf6:Below x5f.heap.size x5f x6f:=by
  rw[hw6];exact zO (zO (zO hbw6 oM 0 _) oM 1 _) oM 2 _
 have hB:=nx hB hbf6;have HM:=xgv (HM.out.below hbf6);have HL:=xgv (HL.out.below hbf6);have b1:=b1.below hbf6;have b2:=b2.below hbf6;have HA:=xgv (HA.out.below hbf6);have b2x:=b2x.below hbf6;have HB:=xgv (HB.out.below hbf6);have b3x:=b3x.below hbf6;have b4x:=b4x.below hbf6;have HD:=xgv (HD.out.below hbf6);have b5x:=b5x.below hbf6;clear c1 c2 c3 T6 hw6 hstx6 hox6 hbw6 hN6;go_wp2_with fail
 refine(zRH 0 0 _ _ _ (by rfl) (by rfl) dE dE).mono ?_;rintro e wf ⟨v1,rfl,hm,hb1⟩;have hB:=nx hB hb1;have HM:=xgv (HM.out.below hb1);have HL:=xgv (HL.out.below hb1);have b1:=b1.below hb1;have b2:=b2.below hb1;have HA:=xgv (HA.out.below hb1);have b2x:=b2x.below hb1;have HB:=xgv (HB.out.below hb1);have b3x:=b3x.below hb1;have b4x:=b4x.below hb1;have HD:=xgv (HD.out.below hb1);have b5x:=b5x.below hb1;obtain⟨wfo,wfn,wfk,rfl⟩:=hm.agg;go_wp2_with fail
 refine(zFz true [] _ _ 0 0 _ wf hm ⟨rfl,by simp[zAP]⟩ (qN.nil wf) rfl dE dE (fun a ha=>by omega) dE zPd).mono ?_;rintro e wg ⟨_,rfl,hs,hb1⟩;obtain⟨ko,kn,kk,ko',kn',kk',rfl,-⟩:=zFj hs;have hB:=nx hB hb1;have HM:=xgv (HM.out.below hb1);have HL:=xgv (HL.out.below hb1);have b1:=b1.below hb1;have b2:=b2.below hb1;have HA:=xgv (HA.out.below hb1);have b2x:=b2x.below hb1;have HB:=xgv (HB.out.below hb1);have b3x:=b3x.below hb1;have b4x:=b4x.below hb1;have HD:=xgv (HD.out.below hb1);have b5x:=b5x.below hb1;clear hs hm;go_upto_region 8 with(fail)
 refine zB ?_;intro W7 hW7;obtain⟨hB7,b7x,hsW7⟩:=zK hW7;have hB:=nx hB hB7;have HM:=xgv (HM.out.below hB7);have HL:=xgv (HL.out.below hB7);have b1:=b1.below hB7;have b2:=b2.below hB7;have HA:=xgv (HA.out.below hB7);have b2x:=b2x.below hB7;have HB:=xgv (HB.out.below hB7);have b3x:=b3x.below hB7;have b4x:=b4x.below hB7;have HD:=xgv (HD.out.below hB7);have b5x:=b5x.below hB7;clear hW7;go_wp2_with fail
 refine(zCL 1 2 W7 dE dE dE).mono ?_;rintro e wh ⟨r1,rfl,hr1,hb1⟩;have hB:=nx hB hb1;have HM:=xgv (HM.out.below hb1);have HL:=xgv (HL.out.below hb1);have b1:=b1.below hb1;have b2:=b2.below hb1;have HA:=xgv (HA.out.below hb1);have b2x:=b2x.below hb1;have HB:=xgv (HB.out.below hb1);have b3x:=b3x.below hb1;have b4x:=b4x.below hb1;have HD:=xgv (HD.out.below hb1);have b5x:=b5x.below hb1;have b7x:=b7x.below hb1;obtain⟨p1,p2,p3,p4,p5,p6,p7,p8,rfl,-,-⟩:=id hr1;have HR1:=xgv hr1;clear hr1;go_wp2_with fail
 refine(zB9 0 wh dE dE).mono ?_;rintro e wi ⟨r2,rfl,hr2,hb1⟩;have hB:=nx hB hb1;have HR1:=xgv (HR1.out.below hb1);have HM:=xgv (HM.out.below hb1);have HL:=xgv (HL.out.below hb1);have b1:=b1.below hb1;have b2:=b2.below hb1;have HA:=xgv (HA.out.below hb1);have b2x:=b2x.below hb1;have HB:=xgv (HB.out.below hb1);have b3x:=b3x.below hb1;have b4x:=b4x.below hb1;have HD:=xgv (HD.out.below hb1);have b5x:=b5x.below hb1;have b7x:=b7x.below hb1;obtain⟨u1,u2,u3,u4,u5,u6,u7,u8,rfl,-,-⟩:=id hr2;have HR2:=xgv hr2;clear hr2;go_upto_region 9 with(fail)
 refine zB ?_;intro W8 hW8;obtain⟨hB8,bq,b8x,hsW8⟩:=qH hW8;have hB:=nx hB hB8;have hpp:=zOs bq (HR1.out.below hB8) (HR2.out.below hB8);rw[zMa]at hpp;have HPP:=xgv hpp;have HM:=xgv (HM.out.below hB8);have HL:=xgv (HL.out.below hB8);have b1:=b1.below hB8;have b2:=b2.below hB8;have HA:=xgv (HA.out.below hB8);have b2x:=b2x.below hB8;have HB:=xgv (HB.out.below hB8);have b3x:=b3x.below hB8;have b4x:=b4x.below hB8;have HD:=xgv (HD.out.below hB8);have b5x:=b5x.below hB8;have b7x:=b7x.below hB8;clear hW8 hpp HR1 HR2 bq;go_upto_region 10 with(fail)
 obtain⟨d1,d2,d3,-,-,-⟩:=b2x.three;obtain⟨e1,e2,e3,-,-,-⟩:=b3x.three;obtain⟨f1,f2,f3,-,-,-⟩:=b4x.three;obtain⟨ma,mb,mc,-,-,-⟩:=b5x.three;obtain⟨ia,ib,ic,-,-,-⟩:=b7x.three;have hl21:=zAy [2,1];have hv21:=qZ [2,1];refine zE rfl (RV W8 _ [VP 0 89 g2 0,E 1 90 (.bool true),E 2 91 (.bool true),VP 3 92 g2 1,E 4 93 (.slice o2 n2 k2),⟨5,94,fun w v=>zBs w v [2,1]⟩,⟨6,95,fun w v=>qN w v [2,1]⟩,E 7 96 (.bool true),E 8 97 (.bool true),E 9 98 (.bool true),VP 10 99 g3 0,E 11 100 (.bool false),E 12 101 (.bool true),E 13 102 (.bool true),E 14 103 (.bool true),VP 15 104 we.heap.size 0,E 16 105 (.bool true),E 17 106 (.bool true),E 18 107 (.bool true),VP 19 108 g5 0,E 20 109 (.bool false),E 21 110 (.bool true),E 22 111 (.bool true),E 23 112 (.bool true),VP 24 113 wg.heap.size 0,E 25 114 (.bool true),E 26 115 (.bool true),E 27 17 (.bool true)]) kR RV.start (RV.fin kR ?fin5) ?steps5
 case steps5=>
  (repeat' constructor)<;>(intro L T wS hL hd hcl hI K hK;try refine zA rfl ?_)
  ·exact xgs (hI.k 3 rfl kR)
  ·have zt0:=hI.e mm0 (hd 0)
   have cc0:=hI.cell d1;exact xgu
  ·exact xgs (hI.e mm1 (hd 1))
  ·have zg:=hI.e mm2 (hd 2)
   refine zA xgp ?_;exact xgs (hI.k 3 rfl kR)
  ·have zg:=hI.e mm2 (hd 2)
   refine zA xgp ?_;have zt3:=hI.e mm3 (hd 3);have cc0:=hI.cell d2;exact xgu
  ·have zg:=hI.e mm2 (hd 2)
   refine zA xgp ?_;go_simp;exact hK _ _ ((hI.world ((Below.refl _ _).alloc (xgf _) _)).y mm5 (zBs.new _ [2,1] dE dE))
  ·have zg:=hI.e mm2 (hd 2)
   refine zA xgp ?_;obtain⟨v5,zt5,h5⟩:=hI.v mm5 (hd 5);go_simp;refine(jS _ [2,1] _ h5 dE).mono ?_;rintro e wa ⟨v,rfl,hv,hba⟩;exact hK _ _ ((hI.world hba).y mm6 hv)
  ·have zg:=hI.e mm2 (hd 2)
   refine zA xgp ?_;have zt4:=hI.e mm4 (hd 4);obtain⟨v6,zt6,h6⟩:=hI.v mm6 (hd 6);go_simp;refine(zNM _ _ [2,1] _ (HA.out.vec.below hI.bel) h6).mono ?_;rintro e wa ⟨v,rfl,hv,hba⟩;exact hK _ _ ((hI.world hba).y mm7 hv)
  ·exact xgt (hI.e mm2 (hd 2)) (hI.e mm7 (hd 7))
  ·exact xgs (hI.e mm8 (hd 8))
  ·have zg:=hI.e mm9 (hd 9)
   refine zA xgp ?_;exact xgs (hI.k 5 rfl kR)
  ·have zg:=hI.e mm9 (hd 9)
   refine zA xgp ?_;have zt10:=hI.e zAB (hd 10);have cc0:=hI.cell e1;exact xgu
  ·have zg:=hI.e mm9 (hd 9)
   refine zA xgp ?_;exact xgs (hI.e zAG (hd 11))
  ·exact xgt (hI.e mm9 (hd 9)) (hI.e zAs (hd 12))
  ·exact xgs (hI.e zCS (hd 13))
  ·have zg:=hI.e zBq (hd 14)
   refine zA xgp ?_;exact xgs (hI.k 7 rfl kR)
  ·have zg:=hI.e zBq (hd 14)
   refine zA xgp ?_;have zt15:=hI.e zCV (hd 15);have cc0:=hI.cell f1;exact xgu
  ·exact xgt (hI.e zBq (hd 14)) (hI.e zDy (hd 16))
  ·exact xgs (hI.e zEy (hd 17))
  ·have zg:=hI.e zCl (hd 18)
   refine zA xgp ?_;exact xgs (hI.k 9 rfl kR)
  ·have zg:=hI.e zCl (hd 18)
   refine zA xgp ?_;have zt19:=hI.e zE5 (hd 19);have cc0:=hI.cell ma;exact xgu
  ·have zg:=hI.e zCl (hd 18)
   refine zA xgp ?_;exact xgs (hI.e zEz (hd 20))
  ·exact xgt (hI.e zCl (hd 18)) (hI.e zE0 (hd 21))
  ·exact xgs (hI.e zFa (hd 22))
  ·have zg:=hI.e zFb (hd 23)
   refine zA xgp ?_;exact xgs (hI.k 13 rfl kR)
  ·have zg:=hI.e zFb (hd 23)
   refine zA xgp ?_;have zt24:=hI.e zHa (hd 24);have cc0:=hI.cell ia;exact xgu
  ·exact xgt (hI.e zFb (hd 23)) (hI.e zE1 (hd 25))
  ·exact xgs (hI.e zIp (hd 26))
 intro wy hbwy T hT;simp only[Fin,E,EI,VP,VSl,VN,xgg,xgh,xgi,xgj]at hT;obtain⟨vy5,hy5,vy6,hy6,rfl⟩:=hT;have hB:=nx hB hbwy;have HM:=xgv (HM.out.below hbwy);have HL:=xgv (HL.out.below hbwy);have b1:=b1.below hbwy;have b2:=b2.below hbwy;have HA:=xgv (HA.out.below hbwy);have b2x:=b2x.below hbwy;have HB:=xgv (HB.out.below hbwy);have b3x:=b3x.below hbwy;have b4x:=b4x.below hbwy;have HD:=xgv (HD.out.below hbwy);have b5x:=b5x.below hbwy;have b7x:=b7x.below hbwy;have HPP:=xgv (HPP.out.below hbwy);have b8x:=b8x.below hbwy;clear d1 d2 d3 e1 e2 e3 f1 f2 f3 ma mb mc ia ib ic;go_upto_region 11 with(fail)
 obtain⟨c1,c2,c3,-,-,-⟩:=b1.three;obtain⟨d1,d2,d3,-,-,-⟩:=b2.three;obtain⟨e1,e2,e3,-,-,-⟩:=b3x.three;obtain⟨ma,mb,mc,-,-,-⟩:=b5x.three;obtain⟨j1,j2,j3,-,-,-⟩:=b8x.three;have hl20:=zAy [2,0];have hv20:=qZ [2,0];refine zE rfl (RV wy _ [E 0 116 (.bool true),E 1 117 (.bool true),E 2 118 (.bool true),E 3 119 (.bool true),E 4 120 (.bool true),E 5 121 (.agg #[.int .i64 (2:Nat),.int .i64 (2:Nat),.slice wao wan wak]),⟨6,122,fun w v=>zBs w v [1,0]⟩,⟨7,123,fun w v=>qN w v [1,0]⟩,E 8 124 (.agg #[.bool false,.slice o3 n3 k3,.slice o3' n3' k3']),E 9 125 (.bool true),E 10 126 (.bool true),E 11 127 (.bool true),E 12 128 (.agg #[.int .i64 (1:Nat),.int .i64 (2:Nat),.slice wbo wbn wbk]),⟨13,129,fun w v=>zBs w v [1,2]⟩,⟨14,130,fun w v=>qN w v [1,2]⟩,E 15 131 (.agg #[.bool false,.slice o5 n5 k5,.slice o5' n5' k5']),E 16 132 (.bool true),E 17 133 (.bool true),E 18 134 (.bool true),E 19 135 (.agg #[.int .i64 (2:Nat),.int .i64 (2:Nat),.slice wao wan wak]),⟨20,136,fun w v=>zBs w v [1,0]⟩,⟨21,137,fun w v=>qN w v [1,0]⟩,E 22 138 (.agg #[.bool false,.slice none 0 0,.slice (some ⟨wi.heap.size,0,none⟩) 2 2]),E 23 139 (.bool true),E 24 140 (.bool true),E 25 141 (.bool true),E 26 142 (.agg #[.int .i64 (2:Nat),.int .i64 (2:Nat),.slice wao wan wak]),⟨27,143,fun w v=>zBs w v [2,0]⟩,⟨28,144,fun w v=>qN w v [2,0]⟩,E 29 145 (.agg #[.bool false,.slice none 0 0,.slice (some ⟨wi.heap.size,0,none⟩) 2 2]),E 30 146 (.bool false),E 31 147 (.bool true),E 32 148 (.bool true),E 33 149 (.bool true),E 34 150 (.agg #[.int .i64 (2:Nat),.int .i64 (2:Nat),.slice wao wan wak]),⟨35,151,fun w v=>zBs w v [4,3]⟩,⟨36,152,fun w v=>qN w v [4,3]⟩,E 37 153 (.agg #[.bool false,.slice none 0 0,.slice none 0 0]),E 38 154 (.bool false),E 39 155 (.bool true),E 40 156 (.bool true),E 41 0 (.bool true)]) kR RV.start (RV.fin kR ?fin6) ?steps6
 case steps6=>
  (repeat' constructor)<;>(intro L T wS hL hd hcl hI K hK;try refine zA rfl ?_)
  ·exact xgs (hI.k 16 rfl kR)
  ·exact xgs (hI.e mm0 (hd 0))
  ·have zg:=hI.e mm1 (hd 1)
   refine zA xgp ?_;exact xgs (hI.k 17 rfl kR)
  ·exact xgt (hI.e mm1 (hd 1)) (hI.e mm2 (hd 2))
  ·exact xgs (hI.e mm3 (hd 3))
  ·have zg:=hI.e mm4 (hd 4)
   refine zA xgp ?_;have zt:=hI.k 1 rfl kR;have cc0:=hI.cell c1;have cc1:=hI.cell c2;have cc2:=hI.cell c3;exact xgu
  ·have zg:=hI.e mm4 (hd 4)
   refine zA xgp ?_;go_simp;exact hK _ _ ((hI.world ((Below.refl _ _).alloc (xgf _) _)).y mm6 (zBs.new _ [1,0] dE dE))
  ·have zg:=hI.e mm4 (hd 4)
   refine zA xgp ?_;obtain⟨v6,zt6,h6⟩:=hI.v mm6 (hd 6);go_simp;refine(jS _ [1,0] _ h6 dE).mono ?_;rintro e wa ⟨v,rfl,hv,hba⟩;exact hK _ _ ((hI.world hba).y mm7 hv)
  ·have zg:=hI.e mm4 (hd 4)
   refine zA xgp ?_;have zt:=hI.k 5 rfl kR;have cc0:=hI.cell e1;have cc1:=hI.cell e2;have cc2:=hI.cell e3;exact xgu
  ·have zg:=hI.e mm4 (hd 4)
   refine zA xgp ?_;have zt5:=hI.e mm5 (hd 5);obtain⟨v7,zt7,h7⟩:=hI.v mm7 (hd 7);have zt8:=hI.e mm8 (hd 8);go_simp;refine(zQl 2 2 [[2,0],[0,3]] [1,0] _ _ _ _ (HB.out.below hI.bel) (HM.out.below hI.bel) ⟨rfl,by simp⟩ h7 rfl dE dE (zDX dE ⟨rfl,by simp⟩) dE).mono ?_;rintro e wa ⟨v,rfl,hv,hba⟩;exact hK _ _ ((hI.world hba).y mm9 hv)
  ·exact xgt (hI.e mm4 (hd 4)) (hI.e mm9 (hd 9))
  ·exact xgs (hI.e zAB (hd 10))
  ·have zg:=hI.e zAG (hd 11)
   refine zA xgp ?_;have zt:=hI.k 2 rfl kR;have cc0:=hI.cell d1;have cc1:=hI.cell d2;have cc2:=hI.cell d3;exact xgu
  ·have zg:=hI.e zAG (hd 11)
   refine zA xgp ?_;go_simp;exact hK _ _ ((hI.world ((Below.refl _ _).alloc (xgf _) _)).y zCS (zBs.new _ [1,2] dE dE))
  ·have zg:=hI.e zAG (hd 11)
   refine zA xgp ?_;obtain⟨v13,zt13,h13⟩:=hI.v zCS (hd 13);go_simp;refine(jS _ [1,2] _ h13 dE).mono ?_;rintro e wa ⟨v,rfl,hv,hba⟩;exact hK _ _ ((hI.world hba).y zBq hv)
  ·have zg:=hI.e zAG (hd 11)
   refine zA xgp ?_;have zt:=hI.k 9 rfl kR;have cc0:=hI.cell ma;have cc1:=hI.cell mb;have cc2:=hI.cell mc;exact xgu
  ·have zg:=hI.e zAG (hd 11)
   refine zA xgp ?_;have zt12:=hI.e zAs (hd 12);obtain⟨v14,zt14,h14⟩:=hI.v zBq (hd 14);have zt15:=hI.e zCV (hd 15);go_simp;refine(zQl 1 2 [[1,1]] [1,2] _ _ _ _ (HD.out.below hI.bel) (HL.out.below hI.bel) ⟨rfl,by simp⟩ h14 rfl dE dE (zDX dE ⟨rfl,by simp⟩) dE).mono ?_;rintro e wa ⟨v,rfl,hv,hba⟩;exact hK _ _ ((hI.world hba).y zDy hv)
  ·exact xgt (hI.e zAG (hd 11)) (hI.e zDy (hd 16))
  ·exact xgs (hI.e zEy (hd 17))
  ·have zg:=hI.e zCl (hd 18)
   refine zA xgp ?_;have zt:=hI.k 1 rfl kR;have cc0:=hI.cell c1;have cc1:=hI.cell c2;have cc2:=hI.cell c3;exact xgu
  ·have zg:=hI.e zCl (hd 18)
   refine zA xgp ?_;go_simp;exact hK _ _ ((hI.world ((Below.refl _ _).alloc (xgf _) _)).y zEz (zBs.new _ [1,0] dE dE))
  ·have zg:=hI.e zCl (hd 18)
   refine zA xgp ?_;obtain⟨v20,zt20,h20⟩:=hI.v zEz (hd 20);go_simp;refine(jS _ [1,0] _ h20 dE).mono ?_;rintro e wa ⟨v,rfl,hv,hba⟩;exact hK _ _ ((hI.world hba).y zE0 hv)
  ·have zg:=hI.e zCl (hd 18)
   refine zA xgp ?_;have zt:=hI.k 15 rfl kR;have cc0:=hI.cell j1;have cc1:=hI.cell j2;have cc2:=hI.cell j3;exact xgu
  ·have zg:=hI.e zCl (hd 18)
   refine zA xgp ?_;have zt19:=hI.e zE5 (hd 19);obtain⟨v21,zt21,h21⟩:=hI.v zE0 (hd 21);have zt22:=hI.e zFa (hd 22);go_simp;refine(zHh true [1,0] _ _ _ _ _ (HM.out.below hI.bel) h21 rfl (HPP.out.below hI.bel) dE dE zMb).mono ?_;rintro e wa ⟨v,rfl,hv,hba⟩;exact hK _ _ ((hI.world hba).y zFb hv)
  ·exact xgt (hI.e zCl (hd 18)) (hI.e zFb (hd 23))
  ·exact xgs (hI.e zHa (hd 24))
  ·have zg:=hI.e zE1 (hd 25)
   refine zA xgp ?_;have zt:=hI.k 1 rfl kR;have cc0:=hI.cell c1;have cc1:=hI.cell c2;have cc2:=hI.cell c3;exact xgu
  ·have zg:=hI.e zE1 (hd 25)
   refine zA xgp ?_;go_simp;exact hK _ _ ((hI.world ((Below.refl _ _).alloc (xgf _) _)).y zJf (zBs.new _ [2,0] dE dE))
  ·have zg:=hI.e zE1 (hd 25)
   refine zA xgp ?_;obtain⟨v27,zt27,h27⟩:=hI.v zJf (hd 27);go_simp;refine(jS _ [2,0] _ h27 dE).mono ?_;rintro e wa ⟨v,rfl,hv,hba⟩;exact hK _ _ ((hI.world hba).y zKA hv)
  ·have zg:=hI.e zE1 (hd 25)
   refine zA xgp ?_;have zt:=hI.k 15 rfl kR;have cc0:=hI.cell j1;have cc1:=hI.cell j2;have cc2:=hI.cell j3;exact xgu
  ·have zg:=hI.e zE1 (hd 25)
   refine zA xgp ?_;have zt26:=hI.e zIp (hd 26);obtain⟨v28,zt28,h28⟩:=hI.v zKA (hd 28);have zt29:=hI.e zIq (hd 29);go_simp;refine(zHh false [2,0] _ _ _ _ _ (HM.out.below hI.bel) h28 rfl (HPP.out.below hI.bel) dE dE zOQ).mono ?_;rintro e wa ⟨v,rfl,hv,hba⟩;exact hK _ _ ((hI.world hba).y zMA hv)
  ·have zg:=hI.e zE1 (hd 25)
   refine zA xgp ?_;exact xgs (hI.e zMA (hd 30))
  ·exact xgt (hI.e zE1 (hd 25)) (hI.e zO7 (hd 31))
  ·exact xgs (hI.e zO8 (hd 32))
  ·have zg:=hI.e zKB (hd 33)
   refine zA xgp ?_;have zt:=hI.k 1 rfl kR;have cc0:=hI.cell c1;have cc1:=hI.cell c2;have cc2:=hI.cell c3;exact xgu
  ·have zg:=hI.e zKB (hd 33)
   refine zA xgp ?_;go_simp;exact hK _ _ ((hI.world ((Below.refl _ _).alloc (xgf _) _)).y zOe (zBs.new _ [4,3] dE dE))
  ·have zg:=hI.e zKB (hd 33)
   refine zA xgp ?_;obtain⟨v35,zt35,h35⟩:=hI.v zOe (hd 35);go_simp;refine(jS _ [4,3] _ h35 dE).mono ?_;rintro e wa ⟨v,rfl,hv,hba⟩;exact hK _ _ ((hI.world hba).y zOf hv)
  ·have zg:=hI.e zKB (hd 33)
   refine zA xgp ?_;exact xgu
  ·have zg:=hI.e zKB (hd 33)
   refine zA xgp ?_;have zt34:=hI.e zO9 (hd 34);obtain⟨v36,zt36,h36⟩:=hI.v zOf (hd 36);have zt37:=hI.e zPA (hd 37);go_simp;refine(zHh false [4,3] [] _ _ _ _ (HM.out.below hI.bel) h36 rfl (jY.nil _) dE dE zOl).mono ?_;rintro e wa ⟨v,rfl,hv,hba⟩;exact hK _ _ ((hI.world hba).y zOg hv)
  ·have zg:=hI.e zKB (hd 33)
   refine zA xgp ?_;exact xgs (hI.e zOg (hd 38))
  ·exact xgt (hI.e zKB (hd 33)) (hI.e zPB (hd 39))
  ·have zt40:=hI.e zPC (hd 40)
   go_simp;exact hK _ _ (hI.q zRF)
 intro wz hbwz T hT;simp only[Fin,E,EI,VP,VSl,VN,xgg,xgh,xgi,xgj]at hT;obtain⟨vz6,hz6,vz7,hz7,vz13,hz13,vz14,hz14,vz20,hz20,vz21,hz21,vz27,hz27,vz28,hz28,vz35,hz35,vz36,hz36,rfl⟩:=hT;have hB:=nx hB hbwz;go_wp2;go_ret;exact⟨rfl,hB⟩
def ZsV(w:World)(v:Value)(ys:List Int):Prop:=
 ∃ao n c,v= .slice ao n c/\ys.length=n/\(ys≠ []->∃b off cells,ao=some ⟨b,off,none⟩/\cells.length=n*2/\zBV w cells ys/\∀j u,cells[j]?=some u->w.cell? ⟨b,off+j,none⟩=some u)
theorem qN.zs{w:World}{v:Value}{ys:List Int}(h:qN w v ys):ZsV w v ys:=by
 obtain⟨ao,n,c,rfl,h2,-,-,h5⟩:=h;refine⟨ao,n,c,rfl,h2,fun hne=>?_⟩;obtain⟨b,rfl,cs,e1,e2⟩:=h5 hne;have hlen:n*2<=cs.size:=by
  have h0:0<ys.length:=List.length_pos_iff.2 hne;obtain⟨_,_,_,_,-,q,-⟩:=e2 (ys.length-1) _ (xga oM);have:=(Array.getElem?_eq_some_iff.1 q).1;omega
 refine⟨b,0,cs.toList.take (n*2),rfl,by simp;omega,fun k z hk=>?_,fun j u hj=>?_⟩
 ·obtain⟨s,a,l,c',q1,q2,q3⟩:=e2 k z hk
  have hk':=(xge.1 hk).1;exact⟨s,a,l,c',by rw[List.getElem?_take_of_lt oM];simpa using q1,by rw[List.getElem?_take_of_lt oM];simpa using q2,q3⟩
 ·rw[List.getElem?_take]at hj
  split at hj
  ·rw[Nat.zero_add,cell_of_row w b j cs tI _ e1]
   simpa using hj
  ·cases hj
theorem zBV.one{w:World}{cells:List Value}{ys:List Int}(h:zBV w cells ys)(hl:cells.length=ys.length*2):∀u∈cells,u.oneCell'=true:=by
 intro u hu;obtain⟨j,hj⟩:=List.getElem?_of_mem hu;have hlt:=(xge.1 hj).1;obtain⟨s,a,l,c,q1,q2,-⟩:=h (j/2) _ (xga oM);rcases Nat.mod_two_eq_zero_or_one j with e|e
 ·rw[show j/2*2=j by omega,hj]at q1
  injection q1 with q1
  subst q1;rfl
 ·rw[show j/2*2+1=j by omega,hj]at q2
  injection q2 with q2
  subst q2;rfl
theorem zBV.append{w:World}{c1 c2:List Value}{zs ys:List Int}(h1:zBV w c1 zs)(h2:zBV w c2 ys)(hl:c1.length=zs.length*2):zBV w (c1++c2) (zs++ys):=by
 intro k z hk;rcases Nat.lt_or_ge k zs.length with hlt|hge
 ·rw[List.getElem?_append_left hlt]at hk
  obtain⟨s,a,l,c,q1,q2,q3⟩:=h1 k z hk;exact⟨s,a,l,c,by rw[List.getElem?_append_left oM];exact q1,by rw[List.getElem?_append_left oM];exact q2,q3⟩
 ·rw[List.getElem?_append_right hge]at hk
  obtain⟨s,a,l,c,q1,q2,q3⟩:=h2 _ z hk;refine⟨s,a,l,c,?_,?_,q3⟩
  ·rw[List.getElem?_append_right oM,hl,show k*2-zs.length*2=(k-zs.length)*2 by omega];exact q1
  ·rw[List.getElem?_append_right oM,hl,show k*2+1-zs.length*2=(k-zs.length)*2+1 by omega];exact q2
theorem zBV.ext{w w':World}{c:List Value}{zs:List Int}(h:zBV w c zs)(x:yI w w'):zBV w' c zs:=fun k z hk=>by
 obtain⟨s,a,l,c,q1,q2,q3⟩:=h k z hk;exact⟨s,a,l,c,q1,q2,q3.ext x⟩
theorem zAc(P:Program)(w:World)(t ty e:TypeId)(i:TypeInfo)(ht:P.underlying t=some (.slice e))(hi:P.info? e=some i)
  (g:Option Addr) (n cap:Nat) (hg:g=none->n=0/\cap=0) (hn:n<=cap) (ao:Option Addr) (c:Nat):
  (Builtin.append_ #[t,t] ty #[.slice g n cap,.slice ao 0 c]).run P w= .ok (.slice g n cap) w:=by
 cases g with
 |none=>
  obtain⟨rfl,rfl⟩:=hg rfl;cases ao<;>simp[Builtin.append_,run_underlying ht,sizeOf,typeInfo,hi,Builtin.lenOf,Builtin.firstCells,loadCells,loadCellsFrom]
 |some g=>
  cases ao<;>simp[Builtin.append_,run_underlying ht,sizeOf,typeInfo,hi,Builtin.lenOf,Builtin.firstCells,loadCells,loadCellsFrom,storeCells,hn]
theorem wpZ{w:World}{o:Oper}{a:Act}{K:Act->World->Prop}{Q:Exit->Act->World->Prop}(t:TypeId)(ht:Tryz.prog.underlying t=some (.slice tI))(s x:Operand)
  (ho:o.op= .call {callee:=.builtin .append,args:=#[s,x],argTypes:=#[t,t]})
  (base:Nat) (v:Value) (zs:List Int) (hs:a.eval s=v) (hown:zBv w base v zs) (xv:Value) (ys:List Int) (hx:a.eval x=xv) (hy:ZsV w xv ys)
  (hlen:zs.length+ys.length<=1099511627776) (hbase:base<=w.heap.size)
  (hK:∀v' w',zBv w' base v' (zs++ys)->w.grownBy w' v.ownBlock->yI w w'->(v'.ownBlock=v.ownBlock∨∃g,v'.ownBlock=some g/\w.heap.size<=g)->K (a.put o.dst v') w'):Oper.wp Tryz.prog o a w K Q:=by
 obtain⟨i0,hi,hz0,hz1,hz2⟩:=info_parts Tryz.infoI;obtain⟨ao,n,c,rfl,hn,hc⟩:=hy;by_cases h0:ys= []
 ·subst h0
  obtain rfl:0=n:=by simpa using hn
  have hr:(Builtin.append_ #[t,t] o.type #[v,.slice ao 0 c]).run Tryz.prog w= .ok v w:=by
   obtain⟨cells,h1,-⟩:=hown;rcases h1.2 with⟨rfl,h0⟩|⟨g,cap,cur,rfl,e2,e3,e4,-⟩
   ·exact zAc Tryz.prog w t o.type tI i0 ht hi none 0 0 (fun _=>⟨rfl,rfl⟩) (xgf _) ao c
   ·exact zAc Tryz.prog w t o.type tI i0 ht hi _ _ cap (fun e=>by cases e) e4 ao c
  have h:=hK v w (by rwa[List.append_nil]) ⟨rfl,rfl,rfl,xgf _,fun _ _ _=>rfl⟩ (lx (Below.refl _ _)) (.inl rfl);unfold Oper.wp execOp;simp only[ho,resolve,invoke,builtin,Sem.run_bind,Sem.run_pure,Result.andThen_ok,List.map_toArray,List.map_cons,List.map_nil,hs,hx,hr];exact h
 ·obtain⟨b,off,news,rfl,hnl,hci,hcell⟩:=hc h0
  have hpos:0<ys.length:=List.length_pos_iff.2 h0;obtain⟨cells,h1,h2⟩:=hown;have hcl:cells.length=zs.length*2:=h1.1;have hnews:∀(j:Nat) (u:Value),news[j]?=some u->w.cell? ((⟨b,off,none⟩:Addr).add j)=some u:=fun j u hj=>by
   rw[Addr.add_lit];exact hcell j u hj
  have hone:=hci.one (by rw[hnl,hn]);have h63:zs.length+n<=maxLen:=by simp[maxLen];omega
  obtain⟨v',w',hr,k1,k2,-⟩:=run_append_own (P:=Tryz.prog) w base t o.type tI i0 _ 2 32 ht hi hz0 hz1 hz2 rfl oM v zs.length cells h1 ⟨b,off,none⟩ n c news hnl hnews hone h63 oM hbase;have h3:v'.ownBlock=v.ownBlock∨∃g,v'.ownBlock=some g/\w.heap.size<=g:=by
   rcases h1.2 with⟨rfl,h0⟩|⟨g,cap,cur,rfl,e2,e3,e4,e5,e6,e7⟩
   ·have hr2:=run_append_nil (P:=Tryz.prog) w t o.type tI i0 _ ht hi hz0 ⟨b,off,none⟩ n c news (by rw[hz1];exact hnl) hnews oM oM (by rw[hz2];omega)
    rw[hr2]at hr;injection hr with hv _
    exact .inr ⟨_,by rw[<-hv];rfl,xgf _⟩
   ·by_cases hroom:zs.length+n<=cap
    ·have hr2:=run_append_room (P:=Tryz.prog) w t o.type tI i0 ht hi g zs.length cap cur e3 ⟨b,off,none⟩ n c news (by rw[hz1];exact hnl) hnews hone hroom (by rw[hz1,e6,hnl];omega)
     rw[hr2]at hr;injection hr with hv _
     exact .inl (by rw[<-hv];rfl)
    ·have hr2:=run_append_grow (P:=Tryz.prog) w t o.type tI i0 _ ht hi hz0 ⟨g,0,none⟩ zs.length cap cells (by rw[hz1];exact hcl) (h1.cells (g:=g) rfl) ⟨b,off,none⟩ n c news (by rw[hz1];exact hnl) hnews oM oM (growslice_fits oM (by rw[hz2];omega))
     rw[hr2]at hr;injection hr with hv _
     exact .inr ⟨_,by rw[<-hv];rfl,xgf _⟩
  have hxg:=zAO h1 dE k2;have hvo:zBv w' base v' (zs++ys):=⟨cells++news,by rw[List.length_append,hn];exact k1,(show zBV w cells zs from h2).ext hxg|>.append (hci.ext hxg) hcl⟩;have h:=hK v' w' hvo k2 hxg h3;unfold Oper.wp execOp;simp only[ho,resolve,invoke,builtin,Sem.run_bind,Sem.run_pure,Result.andThen_ok,List.map_toArray,List.map_cons,List.map_nil,hs,hx,hr];exact h
theorem zQ8{w:World}{ops:Array Oper}{rest:List Oper}{o:Oper}{a:Act}{Q:Exit->Act->World->Prop}(t:TypeId)(ht:Tryz.prog.underlying t=some (.slice tI))(hgd:o.guard=none)(s x:Operand)
  (ho:o.op= .call {callee:=.builtin .append,args:=#[s,x],argTypes:=#[t,t]})
  (base:Nat) (v:Value) (zs:List Int) (hs:a.eval s=v) (hown:zBv w base v zs) (xv:Value) (ys:List Int) (hx:a.eval x=xv) (hy:ZsV w xv ys)
  (hlen:zs.length+ys.length<=1099511627776) (hbase:base<=w.heap.size)
  (h:∀v' w',zBv w' base v' (zs++ys)->w.grownBy w' v.ownBlock->yI w w'->(v'.ownBlock=v.ownBlock∨∃g,v'.ownBlock=some g/\w.heap.size<=g)->wpList Tryz.prog ops Q rest (a.put o.dst v') w'):wpList Tryz.prog ops Q (o::rest) a w:=
 wpList_plain hgd fun _ hK=>wpZ t ht s x ho base v zs hs hown xv ys hx hy hlen hbase fun v' w' h1 h2 h3 h4=>hK _ _ (h v' w' h1 h2 h3 h4)
abbrev tWk:TypeId:=329
def upR(F G:Nat->Nat->Int)(i c:Nat):Nat->Nat->Int:=fun a b=>if a=i/\b<c then G a b else F a b
def upC(F G:Nat->Nat->Int)(j r:Nat):Nat->Nat->Int:=fun a b=>if b=j/\a<r then G a b else F a b
def zRg(F:Nat->Nat->Int)(i c:Nat)(z:Int):Nat->Nat->Int:=fun a b=>if a=i/\b=c then z else F a b
section
variable {w:World} {A:Value} {g n cap R C:Nat} {bs:List Nat} {F:Nat->Nat->Int}
end
structure K9(w:World)(bw:Nat)(AM AU AV:Value)(R C:Nat)(bm bu bv:List Nat)(S T V:Nat->Nat->Int):Prop where
 blk:Blk w bw tWk #[.int .i64 R,.int .i64 C,AM,.int .i64 R,.int .i64 R,AU,.int .i64 R,.int .i64 R,AV]
 m:Wri w AM R C bm S
 u:Wri w AU R R bu T
 v:Wri w AV R R bv V
 mu:Ap AM bm AU bu
 mv:Ap AM bm AV bv
 uv:Ap AU bu AV bv
section
variable {w w':World} {bw:Nat} {AM AU AV:Value} {R C:Nat} {bm bu bv:List Nat} {S T V:Nat->Nat->Int}
def Z3(AM AU AV:Value)(bm bu bv:List Nat)(b:Nat):Prop:=Zn AM bm b∨Zn AU bu b∨Zn AV bv b
end
def KW(Z:Nat->Prop)(w:World)(bw R C:Nat)(x:Bst):Prop:=∃AM AU AV bm bu bv,K9 w bw AM AU AV R C bm bu bv x.s x.t (fun a b=>x.i b a)/\∀b,Z3 AM AU AV bm bu bv b->Z b
structure zPN(n0 R C:Nat)(S T V:Nat->Nat->Int)(w:World)(v:Value):Prop where
 ex:∃so sc uo uc vo vc bs bu bv,v= .agg #[.int .i64 R,.int .i64 C,.slice so R sc,.int .i64 R,.int .i64 R,.slice uo R uc,.int .i64 R,.int .i64 R,.slice vo R vc]∧
  Wri w (.slice so R sc) R C bs S/\Wri w (.slice uo R uc) R R bu T/\Wri w (.slice vo R vc) R R bv V/\(∀b,Z3 (.slice so R sc) (.slice uo R uc) (.slice vo R vc) bs bu bv b->n0<=b)∧
  Ap (.slice so R sc) bs (.slice uo R uc) bu/\Ap (.slice so R sc) bs (.slice vo R vc) bv/\Ap (.slice uo R uc) bu (.slice vo R vc) bv
theorem RG.three{W:World}{T0:Array Value}{vs:List VS}{L:Array Bool}{T:Array Value}{w:World}{k1 k2 k3 s1 s2 s3 R C:Nat}{F1 F2 F3:Nat->Nat->Int}
  (h:RG W T0 vs [⟨k1,s1,R,C,F1⟩,⟨k2,s2,R,R,F2⟩,⟨k3,s3,R,R,F3⟩] L T w) (o1:k1<k2) (o2:k2<k3) (l1:L[k1]?=some true) (l2:L[k2]?=some true) (l3:L[k3]?=some true):
  ∃so sc uo uc vo vc,T[s1]?=some (.agg #[.int .i64 R,.int .i64 C,.slice so R sc])/\T[s2]?=some (.agg #[.int .i64 R,.int .i64 R,.slice uo R uc])/\T[s3]?=some (.agg #[.int .i64 R,.int .i64 R,.slice vo R vc])∧
   zPN W.heap.size R C F1 F2 F3 w (.agg #[.int .i64 R,.int .i64 C,.slice so R sc,.int .i64 R,.int .i64 R,.slice uo R uc,.int .i64 R,.int .i64 R,.slice vo R vc]):=by
 obtain⟨bot,top,g1,g2⟩:=h.gh;have M1:(⟨k1,s1,R,C,F1⟩:MS)∈ [(⟨k1,s1,R,C,F1⟩:MS),⟨k2,s2,R,R,F2⟩,⟨k3,s3,R,R,F3⟩]:=by simp
 have M2:(⟨k2,s2,R,R,F2⟩:MS)∈ [(⟨k1,s1,R,C,F1⟩:MS),⟨k2,s2,R,R,F2⟩,⟨k3,s3,R,R,F3⟩]:=by simp
 have M3:(⟨k3,s3,R,R,F3⟩:MS)∈ [(⟨k1,s1,R,C,F1⟩:MS),⟨k2,s2,R,R,F2⟩,⟨k3,s3,R,R,F3⟩]:=by simp
 obtain⟨a1,a2,_,a3,so,sc,bS,rfl,a5,a6⟩:=g1 _ M1 l1;obtain⟨b1,b2,_,b3,uo,uc,bU,rfl,b5,b6⟩:=g1 _ M2 l2;obtain⟨c1,c2,_,c3,vo,vc,bV,rfl,c5,c6⟩:=g1 _ M3 l3;have r12:=g2 _ M1 _ M2 o1 l1 l2;have r13:=g2 _ M1 _ M3 (by dsimp only;omega) l1 l3;have r23:=g2 _ M2 _ M3 (by dsimp only;omega) l2 l3;refine⟨so,sc,uo,uc,vo,vc,a3,b3,c3,⟨so,sc,uo,uc,vo,vc,bS,bU,bV,rfl,a5,b5,c5,?_,yW a6 b6 r12,yW a6 c6 r13,yW b6 c6 r23⟩⟩;rintro b (hb|hb|hb)
 ·exact Nat.le_trans a1 (a6 b hb).1
 ·exact Nat.le_trans b1 (b6 b hb).1
 ·exact Nat.le_trans c1 (c6 b hb).1
structure zRT(n0 R C:Nat)(S T V:Nat->Nat->Int)(w:World)(v:Value):Prop where
 ex:∃bw AM AU AV bm bu bv,v= .pointer (some ⟨bw,0,none⟩)/\n0<=bw/\K9 w bw AM AU AV R C bm bu bv S T V/\∀b,Z3 AM AU AV bm bu bv b->n0<=b
theorem zBv.row{w:World}{base:Nat}{v:Value}{zs:List Int}{g:Nat}(h:zBv w base v zs)(hg:v.ownBlock=some g):
  ∃cap,v= .slice (some ⟨g,0,none⟩) zs.length cap/\zs.length<=cap/\cap<=9223372036854775807/\base<=g/\qC w g zs:=by
 obtain⟨cells,⟨h0,h1⟩,h2⟩:=h;rcases h1 with⟨rfl,hn⟩|⟨g',cap,cur,rfl,e1,e2,e3,e4,e5,e6⟩
 ·cases hg
 ·injection hg with hg
  subst hg;refine⟨cap,rfl,e3,e4,e1,cur,e2,fun k z hk=>?_⟩;obtain⟨s,a,l,c,q1,q2,q3⟩:=h2 k z hk;have hk':k<zs.length:=(xge.1 hk).1;rw[<-e6,List.getElem?_take_of_lt oM]at q1 q2;exact⟨s,a,l,c,by simpa using q1,by simpa using q2,q3⟩
theorem zLx(w:World){base:Nat}(hb:base<=w.heap.size):zBv (w.alloc (.cells #[] tI)) base (.slice (some ⟨w.heap.size,0,none⟩) 0 0) []:=
 ⟨[],World.ownsRow_made w #[] 0 hb (Nat.zero_le _) rfl,fun k z h=>by simp at h⟩
theorem zBv.onlyS{w w':World}{base:Nat}{v:Value}{zs:List Int}{S:List Nat}(h:zBv w base v zs)(ho:qU S w w')(hA:∀g,v.ownBlock=some g->g ∉ S):zBv w' base v zs:=by
 obtain⟨cells,h1,h2⟩:=h;refine⟨cells,⟨h1.1,?_⟩,zBV.ext h2 ho.lext⟩;rcases h1.2 with h3|⟨g,cap,cur,e1,e2,e3,e4⟩
 ·exact .inl h3
 ·exact .inr ⟨g,cap,cur,e1,e2,(ho.old g (Array.getElem?_eq_some_iff.1 e3).1 (hA g (by rw[e1];rfl))).trans e3,e4⟩
theorem zOm{w:World}{b i:Nat}{u v:Value}(hx:yI w ((w.setCell ⟨b,i,none⟩ u).setCell ⟨b,i+1,none⟩ v)):qU [b] w ((w.setCell ⟨b,i,none⟩ u).setCell ⟨b,i+1,none⟩ v):=
 ⟨zO (zO (Below.refl _ _) (Nat.zero_le _) _ _) (Nat.zero_le _) _ _,hx,fun k _ hk=>zV _ _ _ _ _ _ _ (fun e=>hk (e ▸ List.mem_singleton.2 rfl))⟩

theorem zPY{w:World}{b:Nat}{sn:Bool}{sa:Option Addr}{sl sc:Nat}{z:Int}(hb:Blk w b tI #[.bool sn,.slice sa sl sc])(hz:zH w (.agg #[.bool sn,.slice sa sl sc]) z):ZsV w (.slice (some ⟨b,0,none⟩) 1 1) [z]:=by
 obtain⟨c1,c2,-,-⟩:=hb.two;refine⟨_,1,1,rfl,rfl,fun _=>⟨b,0,[.bool sn,.slice sa sl sc],rfl,rfl,fun k y hk=>?_,fun j u hj=>?_⟩⟩
 ·rcases k with _|k
  ·obtain rfl:z=y:=by simpa using hk
   exact⟨_,_,_,_,rfl,rfl,hz⟩
  ·simp at hk
 ·rcases j with _|_|j
  ·obtain rfl:Value.bool sn=u:=by simpa using hj
   exact c1
  ·obtain rfl:Value.slice sa sl sc=u:=by simpa using hj
   exact c2
  ·simp at hj
theorem zC2{R C:Nat}{A:Nat->Nat->Int}(h:leM 9 R C A):leM 1000 R C A:=fun a ha b hb=>Nat.le_trans (h a ha b hb) dE
theorem wpE{w:World}{o:Oper}{a:Act}{K:Act->World->Prop}{Q:Exit->Act->World->Prop}(t:TypeId)(ht:Tryz.prog.underlying t=some (.slice tI))(s x:Operand)
  (ho:o.op= .call {callee:=.builtin .append,args:=#[s,x],argTypes:=#[t,t]})
  (base g:Nat) (hs:a.eval s= .slice (some ⟨g,0,none⟩) 0 0) (hown:zBv w base (.slice (some ⟨g,0,none⟩) 0 0) []) (xv:Value) (ys:List Int) (hx:a.eval x=xv) (hy:ZsV w xv ys)
  (hlen:ys.length<=1099511627776) (hbase:base<=w.heap.size)
  (hK:∀v' w',zBv w' base v' ys->Below w.heap.size w w'->K (a.put o.dst v') w'):Oper.wp Tryz.prog o a w K Q:=by
 obtain⟨i0,hi,hz0,hz1,hz2⟩:=info_parts Tryz.infoI;obtain⟨ao,n,c,rfl,hn,hc⟩:=hy;by_cases h0:ys= []
 ·subst h0
  obtain rfl:0=n:=by simpa using hn
  have hr:(Builtin.append_ #[t,t] o.type #[.slice (some ⟨g,0,none⟩) 0 0,.slice ao 0 c]).run Tryz.prog w= .ok (.slice (some ⟨g,0,none⟩) 0 0) w:=
   zAc Tryz.prog w t o.type tI i0 ht hi _ 0 0 (fun e=>by cases e) (xgf _) ao c
  have h:=hK _ w hown (Below.refl _ _);unfold Oper.wp execOp;simp only[ho,resolve,invoke,builtin,Sem.run_bind,Sem.run_pure,Result.andThen_ok,List.map_toArray,List.map_cons,List.map_nil,hs,hx,hr];exact h
 ·obtain⟨b,off,news,rfl,hnl,hci,hcell⟩:=hc h0
  have hpos:0<ys.length:=List.length_pos_iff.2 h0;have hnews:∀(j:Nat) (u:Value),news[j]?=some u->w.cell? ((⟨b,off,none⟩:Addr).add j)=some u:=fun j u hj=>by
   rw[Addr.add_lit];exact hcell j u hj
  obtain⟨v',w',hr,k1,k2⟩:=run_append_arg_grows (P:=Tryz.prog) (w:=w) t o.type tI i0 _ 2 32 ht hi hz0 hz1 hz2 rfl oM ⟨g,0,none⟩ 0 0 [] rfl sI ⟨b,off,none⟩ n c news hnl hnews oM (by simp[maxLen];omega) oM;have hb:Below w.heap.size w w':=(Below.refl w.heap.size w).grown k2 (xgf _) (fun g hg=>by cases hg);rw[Nat.zero_add,List.nil_append]at k1;have hvo:zBv w' base v' ys:=by
   refine⟨news,⟨by rw[hnl,hn],?_⟩,hci.ext (lx hb)⟩;rcases k1.2 with⟨e1,e2⟩|⟨g',cap,cur,e1,e2,e3⟩
   ·exact .inl ⟨e1,by omega⟩
   ·exact .inr ⟨g',cap,cur,by rw[hn];exact e1,by omega,by rw[hn];exact e3⟩
  have h:=hK v' w' hvo hb;unfold Oper.wp execOp;simp only[ho,resolve,invoke,builtin,Sem.run_bind,Sem.run_pure,Result.andThen_ok,List.map_toArray,List.map_cons,List.map_nil,hs,hx,hr];exact h
theorem jY.news{w:World}{ao:Option Addr}{n c:Nat}{ps:List (Int × Int)}(h:jY w (.slice ao n c) ps)(hne:ps≠ []):∃b news,ao=some ⟨b,0,none⟩/\news.length=n*4/\zFB w news ps/\∀(j:Nat) (u:Value),news[j]?=some u->w.cell? ⟨b,0+j,none⟩=some u:=by
 obtain⟨ao',n',c',e,h2,-,-,h5⟩:=h;injection e with e1 e2 e3
 subst e1;subst e2;obtain⟨b,rfl,cs,e1,e2⟩:=h5 hne;have hlen:n*4<=cs.size:=by
  have h0:0<ps.length:=List.length_pos_iff.2 hne;obtain⟨_,_,_,_,_,_,_,_,-,-,-,q,-⟩:=e2 (ps.length-1) _ (xga oM);have:=(xge.1 q).1;simp at this;omega
 refine⟨b,cs.toList.take (n*4),rfl,by simp;omega,fun k z hk=>?_,fun j u hj=>?_⟩
 ·obtain⟨s,a,l,c,s',a',l',c',q1,q2,q3,q4,q5,q6⟩:=e2 k z hk
  have hk':=(xge.1 hk).1;exact⟨s,a,l,c,s',a',l',c',by rw[List.getElem?_take_of_lt oM];exact q1,by rw[List.getElem?_take_of_lt oM];exact q2,by rw[List.getElem?_take_of_lt oM];exact q3,by rw[List.getElem?_take_of_lt oM];exact q4,q5,q6⟩
 ·rw[List.getElem?_take]at hj
  split at hj
  ·rw[Nat.zero_add,cell_of_row w b j cs tQ _ e1]
   simpa using hj
  ·cases hj
theorem zRQ{w:World}{o:Oper}{a:Act}{K:Act->World->Prop}{Q:Exit->Act->World->Prop}(s x:Operand)
  (ho:o.op= .call {callee:=.builtin .append,args:=#[s,x],argTypes:=#[37,37]})
  (base g:Nat) (hs:a.eval s= .slice (some ⟨g,0,none⟩) 0 0) (hown:zBt w base (.slice (some ⟨g,0,none⟩) 0 0) []) (xv:Value) (ys:List (Int × Int)) (hx:a.eval x=xv) (hy:jY w xv ys)
  (hlen:ys.length<=1099511627776) (hbase:base<=w.heap.size)
  (hK:∀v' w',zBt w' base v' ys->Below w.heap.size w w'->K (a.put o.dst v') w'):Oper.wp Tryz.prog o a w K Q:=by
 obtain⟨i0,hi,hz0,hz1,hz2⟩:=info_parts Tryz.infoQ;obtain⟨ao,n,c,rfl,hn,-⟩:=id hy;have ht:=Tryz.underlying37;by_cases h0:ys= []
 ·subst h0
  obtain rfl:0=n:=by simpa using hn
  have hr:(Builtin.append_ #[37,37] o.type #[.slice (some ⟨g,0,none⟩) 0 0,.slice ao 0 c]).run Tryz.prog w= .ok (.slice (some ⟨g,0,none⟩) 0 0) w:=
   zAc Tryz.prog w 37 o.type tQ i0 ht hi _ 0 0 (fun e=>by cases e) (xgf _) ao c
  have h:=hK _ w hown (Below.refl _ _);unfold Oper.wp execOp;simp only[ho,resolve,invoke,builtin,Sem.run_bind,Sem.run_pure,Result.andThen_ok,List.map_toArray,List.map_cons,List.map_nil,hs,hx,hr];exact h
 ·obtain⟨b,news,rfl,hnl,hci,hcell⟩:=hy.news h0
  have hpos:0<ys.length:=List.length_pos_iff.2 h0;have hnews:∀(j:Nat) (u:Value),news[j]?=some u->w.cell? ((⟨b,0,none⟩:Addr).add j)=some u:=fun j u hj=>by
   rw[Addr.add_lit];exact hcell j u hj
  obtain⟨v',w',hr,k1,k2⟩:=run_append_arg_grows (P:=Tryz.prog) (w:=w) 37 o.type tQ i0 _ 4 64 ht hi hz0 hz1 hz2 rfl oM ⟨g,0,none⟩ 0 0 [] rfl sI ⟨b,0,none⟩ n c news hnl hnews oM (by simp[maxLen];omega) oM;have hb:Below w.heap.size w w':=(Below.refl w.heap.size w).grown k2 (xgf _) (fun g hg=>by cases hg);rw[Nat.zero_add,List.nil_append]at k1;have hvo:zBt w' base v' ys:=by
   refine⟨news,⟨by rw[hnl,hn],?_⟩,hci.ext (lx hb)⟩;rcases k1.2 with⟨e1,e2⟩|⟨g',cap,cur,e1,e2,e3⟩
   ·exact .inl ⟨e1,by omega⟩
   ·exact .inr ⟨g',cap,cur,by rw[hn];exact e1,by omega,by rw[hn];exact e3⟩
  have h:=hK v' w' hvo hb;unfold Oper.wp execOp;simp only[ho,resolve,invoke,builtin,Sem.run_bind,Sem.run_pure,Result.andThen_ok,List.map_toArray,List.map_cons,List.map_nil,hs,hx,hr];exact h
theorem zJO(mv bv:Value)(f:Bool)(o o':Option Addr)(n k n' k':Nat)(R C:Int)(M:List (List Int))(zs:List Int)(w:World)(hm:jE w mv R C M)(hb:qN w bv zs)(hne:(zs.length:Int)≠C):
  Calls Tryz.prog 20 #[mv,bv,.agg #[.bool f,.slice o n k,.slice o' n' k']] w fun e w'=>∃u,e= .returned u/\u= .bool false/\Below w.heap.size w w':=by
 obtain⟨Av,rfl,hrw⟩:=id hm;obtain⟨ao,mn,acap,rfl,-⟩:=id hrw;obtain⟨bo,bn,bc,rfl,f2,-⟩:=id hb;have hbn:¬ (bn:Int)=C:=by omega
 have HM:=xgv hm;have HB:=xgv hb;obtain⟨dv,hdv⟩:∃dv,decide (qX R C M)=dv:=⟨_,rfl⟩;clear hrw hm hb f2 hne;go_enter Tryz.func20,Tryz.ntmps20;go_upto_region 1 with(fail)
 refine zB ?_;intro W0 hW0;obtain⟨hB0,T3,T5,hs0⟩:=qH hW0;obtain⟨c1,c2,c3,c4,c5,c6⟩:=T3.three;clear hW0;go_wp2_with fail
 refine(yF _ R C M W0 (HM.out.below hB0)).mono ?_;rintro e1 w1 ⟨rfl,hb1⟩;rw[hdv];have T3:=T3.below hb1;have hB:=nx hB0 hb1;clear c1 c2 c3 c4 c5 c6 hdv;cases dv
 ·go_wp2
  go_ret;exact⟨_,rfl,rfl,hB⟩
 ·go_wp2_with fail
  refine(zAN _ _ w1 (HB.out.below hB)).mono ?_;rintro e2 w2 ⟨rfl,hb2⟩;have T3:=T3.below hb2;have hB:=nx hB hb2;obtain⟨c1,c2,c3,c4,c5,c6⟩:=T3.three;go_wp2;go_ret;exact⟨_,rfl,rfl,hB⟩
theorem zG7(mv bv:Value)(f:Bool)(o o':Option Addr)(n k n' k':Nat)(R C:Int)(M:List (List Int))(zs:List Int)(w:World)(hm:jE w mv R C M)(hb:qN w bv zs)(hne:(zs.length:Int)≠C):
  Calls Tryz.prog 19 #[mv,bv,.agg #[.bool f,.slice o n k,.slice o' n' k']] w fun e w'=>∃u,e= .returned u/\u= .bool false/\Below w.heap.size w w':=by
 obtain⟨Av,rfl,hrw⟩:=id hm;obtain⟨ao,mn,acap,rfl,-⟩:=id hrw;obtain⟨bo,bn,bc,rfl,f2,-⟩:=id hb;have hbn:¬ (bn:Int)=C:=by omega
 have HM:=xgv hm;have HB:=xgv hb;obtain⟨dv,hdv⟩:∃dv,decide (qX R C M)=dv:=⟨_,rfl⟩;clear hrw hm hb f2 hne;go_enter Tryz.func19,Tryz.ntmps19;go_upto_region 1 with(fail)
 refine zB ?_;intro W0 hW0;obtain⟨hB0,T3,T5,hs0⟩:=qH hW0;obtain⟨c1,c2,c3,c4,c5,c6⟩:=T3.three;clear hW0;go_wp2_with fail
 refine(zEo _ R C M W0 (HM.out.below hB0)).mono ?_;rintro e1 w1 ⟨rfl,hb1⟩;rw[hdv];have T3:=T3.below hb1;have hB:=nx hB0 hb1;clear c1 c2 c3 c4 c5 c6 hdv;cases dv
 ·go_wp2
  go_ret;exact⟨_,rfl,rfl,hB⟩
 ·go_wp2_with fail
  refine(zAq _ _ w1 (HB.out.below hB)).mono ?_;rintro e2 w2 ⟨rfl,hb2⟩;have T3:=T3.below hb2;have hB:=nx hB hb2;obtain⟨c1,c2,c3,c4,c5,c6⟩:=T3.three;go_wp2;go_ret;exact⟨_,rfl,rfl,hB⟩
end Go.Proofs.YtnbmaipobhppcaaGreat
