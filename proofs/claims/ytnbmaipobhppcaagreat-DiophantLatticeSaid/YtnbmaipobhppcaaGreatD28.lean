/- diophant.Check at a row. diophant.Check at a column. diophant.Solve where b does not fit. torsionlaw14.row. diophant.Check: a row and a column. diophant.Check: a row of the wrong length. What both Checks answer to what diophant.Solve hands back. -/
import Derived.Test.YtnbmaipobhppcaaGreatD23
import Derived.Test.YtnbmaipobhppcaaGreatD24
import Derived.Test.YtnbmaipobhppcaaGreatD27
set_option linter.unusedVariables false
set_option linter.unusedSimpArgs false
set_option linter.unusedSectionVars false
set_option maxHeartbeats 16000000
set_option maxRecDepth 100000
namespace Go.Proofs.YtnbmaipobhppcaaGreat
open Go.RowKit
theorem zEO(v:Value)(W:World):(Instr.typeAssert (.iface 148 v) 146 148 true).run Tryz.prog W= .ok (.tuple #[v,.bool true]) W:=by kernel_rfl
theorem zEN(v:Value)(W:World):(Instr.typeAssert (.iface 137 v) 146 148 true).run Tryz.prog W= .ok (.tuple #[.slice none 0 0,.bool false]) W:=by kernel_rfl
theorem zEM(v:Value)(W:World):(Instr.typeAssert (.iface 137 v) 146 137 true).run Tryz.prog W= .ok (.tuple #[v,.bool true]) W:=by kernel_rfl
theorem zDn(W:World):(Instr.typeAssert .nilIface 146 148 true).run Tryz.prog W= .ok (.tuple #[.slice none 0 0,.bool false]) W:=by kernel_rfl
theorem zDo(W:World):(Instr.typeAssert .nilIface 146 137 true).run Tryz.prog W= .ok (.tuple #[.slice none 0 0,.bool false]) W:=by kernel_rfl
theorem zFY(o:Option Addr)(n c:Nat)(w:World):Calls Tryz.prog 82 #[.slice o n c] w fun e w'=>∃u,e= .returned u/\u= .int .i64 n/\Below w.heap.size w w':=by
 go_enter Tryz.func82,Tryz.ntmps82;go_wp2;go_ret;exact⟨_,rfl,rfl,Below.refl _ _⟩
theorem zFA(o:Option Addr)(n c:Nat)(w:World):Calls Tryz.prog 84 #[.slice o n c] w fun e w'=>∃u,e= .returned u/\u= .int .i64 n/\Below w.heap.size w w':=by
 go_enter Tryz.func84,Tryz.ntmps84;go_wp2;go_ret;exact⟨_,rfl,rfl,Below.refl _ _⟩
theorem zDp(mv bv xv yv:Value)(R C:Nat)(M:List (List Int))(y:Nat->Int)(xs:List Int)(ps:List (Int × Int))(w:World)(hm:yP w mv R C M)(hF:jK R C M)(hb:qT w bv (zM C y))(hx:qT w xv xs)(hp:zAn w yv ps)(hR:R<=1000)(hC:C<=1000)(hS:xs.length=R->zCa xs M R C)(hl:xs.length=R)(hk:ps.length=0):
  Calls Tryz.prog 20 #[mv,bv,.agg #[.bool true,xv,yv]] w fun e w'=>∃u,e= .returned u/\u= .bool (zE8 R C (ent M) y xs ps.length)/\Below w.heap.size w w':=by
 have HM:=xgv hm;obtain⟨Av,rfl,hrw⟩:=id hm;obtain⟨ao,mn,acap,rfl,e2,e3,e4,-⟩:=id hrw;obtain rfl:R=mn:=by rw[<-e2,hF.1]
 have HF:=xgv hF;have HB:=xgv hb;have HX:=xgv hx;obtain⟨bo,bn,bc,rfl,f2,f3,f4,-⟩:=id hb;obtain rfl:C=bn:=by rw[<-f2,zD]
 obtain⟨xo,xn,xc,rfl,g2,g3,g4,-⟩:=id hx;obtain⟨yo,yn,yc,rfl,k2,k3,k4,-⟩:=id hp;obtain rfl:R=xn:=by omega
 obtain rfl:yn=0:=by omega
 have hdv:decide (qX R C M)=true:=decide_eq_true hF.valid;have HL:=xgv hl;have HS:=xgv (hS hl);have hce:zE8 R C (ent M) y xs ps.length=decide (zM C (fun j=>qE R fun i=>xs.getD i 0*ent M i j)=zM C y):=by
  unfold zE8;rw[hl,hk];simp
 rw[hce];obtain⟨ans,hans⟩:∃ans,decide (zM C (fun j=>qE R fun i=>xs.getD i 0*ent M i j)=zM C y)=ans:=⟨_,rfl⟩;have HA:=xgv hans;rw[hans];clear hrw hF hm hb hx hp hS hl hk hce hans e2 f2 g2 k2;go_enter Tryz.func20,Tryz.ntmps20;go_upto_region 1 with(fail)
 refine zB ?_;intro W0 hW0;obtain⟨hB0,T3,T5,hs0⟩:=qI hW0;obtain⟨c1,c2,c3,c4,c5,c6⟩:=T3.three;clear hW0;go_wp2_with fail
 refine(yK _ R C M W0 (HM.out.below hB0)).mono ?_;rintro e1 w1 ⟨rfl,hb1⟩;rw[hdv];have T3:=T3.below hb1;have T5:=T5.below hb1;have hB:=nx hB0 hb1;clear c1 c2 c3 c4 c5 c6 hdv;go_wp2_with fail
 refine(zAc _ _ w1 (HB.out.below hB)).mono ?_;rintro e2 w2 ⟨rfl,hb2⟩;have T3:=T3.below hb2;have T5:=T5.below hb2;have hB:=nx hB hb2;obtain⟨c1,c2,c3,c4,c5,c6⟩:=T3.three;obtain⟨d1,d2,d3,d4,d5,d6⟩:=T5.three;go_wp2_with fail
 refine(zDT xo yo R xc 0 yc w2).mono ?_;rintro e3 w3 ⟨rfl,hb3⟩;have T3:=T3.below hb3;have hB:=nx hB hb3;clear c1 c2 c3 c4 c5 c6 d1 d2 d3 d4 d5 d6 T5;obtain⟨c1,c2,c3,c4,c5,c6⟩:=T3.three;rw[if_pos rfl];have hta:=zEO;go_upto_region 6 with(fail)
 refine zE rfl (RV w3 _ [E 0 29 (.slice xo R xc),VN 1 30 R,VP 2 31 w.heap.size 0,VN 3 32 R,E 4 33 (.bool true),E 5 34 (.bool true),E 6 35 (.slice xo R xc),E 7 36 (.agg #[.int .i64 R,.int .i64 C,.slice ao R acap]),E 8 37 (.slice bo C bc),E 9 38 (.bool ans),E 10 39 (.bool ans),E 11 6 (.bool ans)]) kR RV.start (RV.fin kR ?fin1) ?steps1
 case steps1=>
  refine⟨?_,?_,?_,?_,?_,?_,?_,?_,?_,?_,?_,?_,trivial⟩<;>(intro L T wS hL hd hcl hI K hK;try refine zA rfl ?_)
  ·exact xgs (hI.k 7 rfl kR)
  ·have zt0:=hI.e mm0 (hd 0)
   go_simp;refine(zFY xo R xc _).mono ?_;rintro e wa ⟨v,rfl,hv,hba⟩;exact hK _ _ ((hI.world hba).y mm1 hv)
  ·exact xgs (hI.k 3 rfl kR)
  ·have zt2:=hI.e mm2 (hd 2)
   have cc0:=hI.cell c1;exact xgu
  ·exact xgt (hI.e mm1 (hd 1)) (hI.e mm3 (hd 3))
  ·exact xgs (hI.e mm4 (hd 4))
  ·have zg:=hI.e mm5 (hd 5)
   refine zA xgp ?_;exact xgs (hI.k 7 rfl kR)
  ·have zg:=hI.e mm5 (hd 5)
   refine zA xgp ?_;have zt:=hI.k 3 rfl kR;have cc0:=hI.cell c1;have cc1:=hI.cell c2;have cc2:=hI.cell c3;exact xgu
  ·have zg:=hI.e mm5 (hd 5)
   refine zA xgp ?_;exact xgs (hI.k 1 rfl kR)
  ·have zg:=hI.e mm5 (hd 5)
   refine zA xgp ?_;have zt6:=hI.e mm6 (hd 6);have zt7:=hI.e mm7 (hd 7);have zt8:=hI.e mm8 (hd 8);go_simp;refine(HA.out ▸ zJg _ _ _ xs M R C y _ (HX.out.below (nx hB hI.bel)) (HM.out.below (nx hB hI.bel)) (HB.out.below (nx hB hI.bel)) HL.out HF.out oM oM HS.out).mono ?_;rintro e wa ⟨v,rfl,hv,hba⟩;exact hK _ _ ((hI.world hba).y mm9 hv)
  ·exact xgt (hI.e mm5 (hd 5)) (hI.e mm9 (hd 9))
  ·exact xgs (hI.e zAC (hd 10))
 intro w4 hbw4 T hT;simp only[Fin,E,EI,VP,VSl,VN,xgg,xgh,xgi,xgj]at hT;subst hT;go_wp2;go_ret;exact⟨_,rfl,rfl,nx hB hbw4⟩
theorem zFB{e h:Nat}(mv bv xv yv:Value)(R C:Nat)(M:List (List Int))(y:Nat->Int)(xs:List Int)(ps:List (Int × Int))(w:World)(hm:yP w mv R C M)(hF:jK R C M)(hb:qT w bv (zM C y))(hx:qT w xv xs)(hp:zAn w yv ps)(hC:C<=1000)
  (hps:∀p∈ps,p.1.natAbs<2^e/\p.2.natAbs<2^e) (hM:∀a,a<R->∀b,b<C->(ent M a b).natAbs<2^h) (hy:∀j,j<C->(y j).natAbs<2^h) (hh:1<=h) (he:e+h+1<=900) (hl:xs.length=0) (hk:ps.length=C):
  Calls Tryz.prog 20 #[mv,bv,.agg #[.bool false,xv,yv]] w fun e w'=>∃u,e= .returned u/\u= .bool (zE9 R C (ent M) y xs.length ps)/\Below w.heap.size w w':=by
 have HM:=xgv hm;obtain⟨Av,rfl,hrw⟩:=id hm;obtain⟨ao,mn,acap,rfl,e2,e3,e4,-⟩:=id hrw;obtain rfl:R=mn:=by rw[<-e2,hF.1]
 have HF:=xgv hF;have HB:=xgv hb;have HX:=xgv hx;obtain⟨bo,bn,bc,rfl,f2,f3,f4,-⟩:=id hb;obtain rfl:C=bn:=by rw[<-f2,zD]
 obtain⟨xo,xn,xc,rfl,g2,g3,g4,-⟩:=id hx;obtain⟨yo,yn,yc,rfl,k2,k3,k4,-⟩:=id hp;obtain rfl:C=yn:=by omega
 obtain rfl:xn=0:=by omega
 have hdv:decide (qX R C M)=true:=decide_eq_true hF.valid;have HP:=xgv hp;have HPB:=xgv hps;have HMB:=xgv hM;have HYB:=xgv hy;have HL:=xgv hk;have hce:zE9 R C (ent M) y xs.length ps=(zC4 ps && ((List.range R).all fun i=>isZ (zBQ C (ent M i) (rqL ps))) && !isZ (zBQ C y (rqL ps))):=by
  unfold zE9;rw[hl,hk];simp
 rw[hce];obtain⟨ans,hans⟩:∃ans,(zC4 ps && ((List.range R).all fun i=>isZ (zBQ C (ent M i) (rqL ps))) && !isZ (zBQ C y (rqL ps)))=ans:=⟨_,rfl⟩;have HA:=xgv hans;rw[hans];clear hrw hF hm hb hx hp hps hM hy hl hk hce hans e2 f2 g2 k2;go_enter Tryz.func20,Tryz.ntmps20;go_upto_region 1 with(fail)
 refine zB ?_;intro W0 hW0;obtain⟨hB0,T3,T5,hs0⟩:=qI hW0;obtain⟨c1,c2,c3,c4,c5,c6⟩:=T3.three;clear hW0;go_wp2_with fail
 refine(yK _ R C M W0 (HM.out.below hB0)).mono ?_;rintro e1 w1 ⟨rfl,hb1⟩;rw[hdv];have T3:=T3.below hb1;have T5:=T5.below hb1;have hB:=nx hB0 hb1;clear c1 c2 c3 c4 c5 c6 hdv;go_wp2_with fail
 refine(zAc _ _ w1 (HB.out.below hB)).mono ?_;rintro e2 w2 ⟨rfl,hb2⟩;have T3:=T3.below hb2;have T5:=T5.below hb2;have hB:=nx hB hb2;obtain⟨c1,c2,c3,c4,c5,c6⟩:=T3.three;obtain⟨d1,d2,d3,d4,d5,d6⟩:=T5.three;go_wp2_with fail
 refine(zFw xo yo 0 xc C yc w2).mono ?_;rintro e3 w3 ⟨rfl,hb3⟩;have T3:=T3.below hb3;have hB:=nx hB hb3;clear c1 c2 c3 c4 c5 c6 d1 d2 d3 d4 d5 d6 T5;obtain⟨c1,c2,c3,c4,c5,c6⟩:=T3.three;rw[if_pos rfl];have hta:=zEN;have htb:=zEM;go_upto_region 9 with(fail)
 refine zE rfl (RV w3 _ [E 0 43 (.slice yo C yc),VN 1 44 C,VP 2 45 w.heap.size 1,VN 3 46 C,E 4 47 (.bool true),E 5 48 (.bool true),E 6 49 (.slice yo C yc),E 7 50 (.agg #[.int .i64 R,.int .i64 C,.slice ao R acap]),E 8 51 (.slice bo C bc),E 9 52 (.bool ans),E 10 53 (.bool ans),E 11 6 (.bool ans)]) kR RV.start (RV.fin kR ?fin1) ?steps1
 case steps1=>
  refine⟨?_,?_,?_,?_,?_,?_,?_,?_,?_,?_,?_,?_,trivial⟩<;>(intro L T wS hL hd hcl hI K hK;try refine zA rfl ?_)
  ·exact xgs (hI.k 8 rfl kR)
  ·have zt0:=hI.e mm0 (hd 0)
   go_simp;refine(zFA yo C yc _).mono ?_;rintro e wa ⟨v,rfl,hv,hba⟩;exact hK _ _ ((hI.world hba).y mm1 hv)
  ·exact xgs (hI.k 3 rfl kR)
  ·have zt2:=hI.e mm2 (hd 2)
   have cc0:=hI.cell c2;exact xgu
  ·exact xgt (hI.e mm1 (hd 1)) (hI.e mm3 (hd 3))
  ·exact xgs (hI.e mm4 (hd 4))
  ·have zg:=hI.e mm5 (hd 5)
   refine zA xgp ?_;exact xgs (hI.k 8 rfl kR)
  ·have zg:=hI.e mm5 (hd 5)
   refine zA xgp ?_;have zt:=hI.k 3 rfl kR;have cc0:=hI.cell c1;have cc1:=hI.cell c2;have cc2:=hI.cell c3;exact xgu
  ·have zg:=hI.e mm5 (hd 5)
   refine zA xgp ?_;exact xgs (hI.k 1 rfl kR)
  ·have zg:=hI.e mm5 (hd 5)
   refine zA xgp ?_;have zt6:=hI.e mm6 (hd 6);have zt7:=hI.e mm7 (hd 7);have zt8:=hI.e mm8 (hd 8);go_simp;refine(HA.out ▸ zH5 (e:=e) (h:=h) _ _ _ R C M y ps _ (HM.out.below (nx hB hI.bel)) HF.out (HB.out.below (nx hB hI.bel)) (HP.out.below (nx hB hI.bel)) HL.out hC HPB.out HMB.out HYB.out hh he).mono ?_;rintro e wa ⟨v,rfl,hv,hba⟩;exact hK _ _ ((hI.world hba).y mm9 hv)
  ·exact xgt (hI.e mm5 (hd 5)) (hI.e mm9 (hd 9))
  ·exact xgs (hI.e zAC (hd 10))
 intro w4 hbw4 T hT;simp only[Fin,E,EI,VP,VSl,VN,xgg,xgh,xgi,xgj]at hT;subst hT;go_wp2;go_ret;exact⟨_,rfl,rfl,nx hB hbw4⟩
theorem zFI(v bv:Value)(R C:Nat)(M:List (List Int))(zs:List Int)(w:World)(hm:yP w v R C M)(hF:jK R C M)(hb:qT w bv zs)(hne:zs.length≠C):
  Calls Tryz.prog 18 #[v,bv] w fun e w'=>e= .returned (.tuple #[.agg #[.bool false,.slice none 0 0,.slice none 0 0],.int .i64 50])/\Below w.heap.size w w':=by
 have HM:=xgv hm;obtain⟨Av,rfl,hrw⟩:=id hm;obtain⟨ao,n,acap,rfl,e2,e3,e4,-⟩:=id hrw;obtain rfl:R=n:=by rw[<-e2,hF.1]
 obtain⟨bo,bn,bc,rfl,f2,f3,f4,-⟩:=id hb;have hdv:decide (qX R C M)=true:=decide_eq_true hF.valid;have hbn:¬ (bn:Int)=(C:Int):=by omega
 clear hm hrw hb hF e2 f2 hne;go_enter Tryz.func18,Tryz.ntmps18;go_upto_region 1 with(fail)
 refine zB ?_;intro W0 hW0;obtain⟨hB0,T2,T4,hs0⟩:=qI hW0;obtain⟨c1,c2,c3,c4,c5,c6⟩:=T2.three;clear hW0;go_wp2_with fail
 refine(yK _ R C M W0 (HM.out.below hB0)).mono ?_;rintro e w1 ⟨rfl,hb1⟩;rw[hdv];have T2:=T2.below hb1;have T4:=T4.below hb1;have hB:=nx hB0 hb1;clear c1 c2 c3 c4 c5 c6;obtain⟨c1,c2,c3,c4,c5,c6⟩:=T2.three;obtain⟨d1,d2,d3,d4,d5,d6⟩:=T4.three;have lt4:=T4.lt;go_wp2;refine bodyPost_ret (zDe rfl _ rfl (T4.put3 _ _ _) rfl) rfl ⟨rfl,zT (zT (zT hB oM 0 _) oM 1 _) oM 2 _⟩
theorem jQ(v:Value)(ls:List Int)(w:World)(h:zBu w v ls)(hn:ls.length<=1000):
  Calls Tryz.prog 61 #[v] w fun e w'=>∃u,e= .returned u/\qT w' u ls/\Below w.heap.size w w':=by
 obtain⟨ao,n,cap,rfl,h2,h3,h4,-,-⟩:=id h;have H:=xgv h;have HL:=xgv h2;have hn1:n<=1000:=by omega
 have HG:qF (zX 1 n (fun i j=>ls.getD (i*n+j) 0)= [ls]):=⟨by
  have:zM ls.length (fun i=>ls.getD i 0)=ls:=by
   refine List.ext_getElem (by simp[zM]) fun j h1 h2=>?_
   simp[zM,xgb,h2]
  rw[h2]at this;conv=>rhs;rw[<-this]
  simp[zX,zM,Nat.zero_mul,Nat.zero_add]⟩
 clear h h2 hn;go_enter Tryz.func61,Tryz.ntmps61;go_wp2_with fail
 refine(zMT _ ls 1 n _ _ [ls] w H.out rfl rfl (by rw[HL.out];omega) oM hn1 HG.out).mono ?_;rintro e w1 ⟨u,rfl,hm,hb1⟩;obtain⟨A2,rfl,hA2⟩:=hm;obtain⟨oo,nn,kk,rfl,hn1,-⟩:=id hA2;obtain rfl:1=nn:=hn1;obtain⟨bb,ra,rn,rc,zs,rfl,hbl,hz,p1,hrv⟩:=hA2.row (k:=0) (Nat.zero_lt_one);obtain rfl:ls=zs:=Option.some.inj hz;have HRV:=xgv hrv;have hfl:=zDS;clear hA2 hrv hz;go_wp2;go_ret;exact⟨_,rfl,HRV.out,hb1⟩
theorem zFn(mv bv xv yv:Value)(R C:Nat)(M:List (List Int))(y:Nat->Int)(xs:List Int)(ps:List (Int × Int))(w:World)(hm:yP w mv R C M)(hF:jK R C M)(hb:qT w bv (zM C y))(hx:qT w xv xs)(hp:zAn w yv ps)(hk:ps.length≠0):
  Calls Tryz.prog 20 #[mv,bv,.agg #[.bool true,xv,yv]] w fun e w'=>∃u,e= .returned u/\u= .bool (zE8 R C (ent M) y xs ps.length)/\Below w.heap.size w w':=by
 have HM:=xgv hm;obtain⟨Av,rfl,hrw⟩:=id hm;obtain⟨ao,mn,acap,rfl,e2,e3,e4,-⟩:=id hrw;obtain rfl:R=mn:=by rw[<-e2,hF.1]
 have HF:=xgv hF;have HB:=xgv hb;have HX:=xgv hx;obtain⟨bo,bn,bc,rfl,f2,f3,f4,-⟩:=id hb;obtain rfl:C=bn:=by rw[<-f2,zD]
 obtain⟨xo,xn,xc,rfl,g2,g3,g4,-⟩:=id hx;obtain⟨yo,yn,yc,rfl,k2,k3,k4,-⟩:=id hp;have hyn:yn≠0:=by omega
 have hdv:decide (qX R C M)=true:=decide_eq_true hF.valid;have hce:zE8 R C (ent M) y xs ps.length=false:=by
  unfold zE8;rw[decide_eq_false hk];simp
 rw[hce];clear hrw hF hm hb hx hp hk hce e2 f2 g2 k2;go_enter Tryz.func20,Tryz.ntmps20;go_upto_region 1 with(fail)
 refine zB ?_;intro W0 hW0;obtain⟨hB0,T3,T5,hs0⟩:=qI hW0;obtain⟨c1,c2,c3,c4,c5,c6⟩:=T3.three;clear hW0;go_wp2_with fail
 refine(yK _ R C M W0 (HM.out.below hB0)).mono ?_;rintro e1 w1 ⟨rfl,hb1⟩;rw[hdv];have T3:=T3.below hb1;have T5:=T5.below hb1;have hB:=nx hB0 hb1;clear c1 c2 c3 c4 c5 c6 hdv;go_wp2_with fail
 refine(zAc _ _ w1 (HB.out.below hB)).mono ?_;rintro e2 w2 ⟨rfl,hb2⟩;have T3:=T3.below hb2;have T5:=T5.below hb2;have hB:=nx hB hb2;obtain⟨c1,c2,c3,c4,c5,c6⟩:=T3.three;obtain⟨d1,d2,d3,d4,d5,d6⟩:=T5.three;go_wp2_with fail
 refine(zDT xo yo xn xc yn yc w2).mono ?_;rintro e3 w3 ⟨rfl,hb3⟩;have T3:=T3.below hb3;have hB:=nx hB hb3;clear c1 c2 c3 c4 c5 c6 d1 d2 d3 d4 d5 d6 T5;obtain⟨c1,c2,c3,c4,c5,c6⟩:=T3.three;rw[if_neg hyn];have hta:=zDn;have htb:=zDo;go_wp2;go_ret;exact⟨_,rfl,rfl,hB⟩
theorem zHX(mv bv xv yv:Value)(R C:Nat)(M:List (List Int))(y:Nat->Int)(xs:List Int)(ps:List (Int × Int))(w:World)(hm:yP w mv R C M)(hF:jK R C M)(hb:qT w bv (zM C y))(hx:qT w xv xs)(hp:zAn w yv ps)(hk:xs.length≠0):
  Calls Tryz.prog 20 #[mv,bv,.agg #[.bool false,xv,yv]] w fun e w'=>∃u,e= .returned u/\u= .bool (zE9 R C (ent M) y xs.length ps)/\Below w.heap.size w w':=by
 have HM:=xgv hm;obtain⟨Av,rfl,hrw⟩:=id hm;obtain⟨ao,mn,acap,rfl,e2,e3,e4,-⟩:=id hrw;obtain rfl:R=mn:=by rw[<-e2,hF.1]
 have HF:=xgv hF;have HB:=xgv hb;have HX:=xgv hx;obtain⟨bo,bn,bc,rfl,f2,f3,f4,-⟩:=id hb;obtain rfl:C=bn:=by rw[<-f2,zD]
 obtain⟨xo,xn,xc,rfl,g2,g3,g4,-⟩:=id hx;obtain⟨yo,yn,yc,rfl,k2,k3,k4,-⟩:=id hp;have hyn:xn≠0:=by omega
 have hdv:decide (qX R C M)=true:=decide_eq_true hF.valid;have hce:zE9 R C (ent M) y xs.length ps=false:=by
  unfold zE9;rw[decide_eq_false hk];simp
 rw[hce];clear hrw hF hm hb hx hp hk hce e2 f2 g2 k2;go_enter Tryz.func20,Tryz.ntmps20;go_upto_region 1 with(fail)
 refine zB ?_;intro W0 hW0;obtain⟨hB0,T3,T5,hs0⟩:=qI hW0;obtain⟨c1,c2,c3,c4,c5,c6⟩:=T3.three;clear hW0;go_wp2_with fail
 refine(yK _ R C M W0 (HM.out.below hB0)).mono ?_;rintro e1 w1 ⟨rfl,hb1⟩;rw[hdv];have T3:=T3.below hb1;have T5:=T5.below hb1;have hB:=nx hB0 hb1;clear c1 c2 c3 c4 c5 c6 hdv;go_wp2_with fail
 refine(zAc _ _ w1 (HB.out.below hB)).mono ?_;rintro e2 w2 ⟨rfl,hb2⟩;have T3:=T3.below hb2;have T5:=T5.below hb2;have hB:=nx hB hb2;obtain⟨c1,c2,c3,c4,c5,c6⟩:=T3.three;obtain⟨d1,d2,d3,d4,d5,d6⟩:=T5.three;go_wp2_with fail
 refine(zFw xo yo xn xc yn yc w2).mono ?_;rintro e3 w3 ⟨rfl,hb3⟩;have T3:=T3.below hb3;have hB:=nx hB hb3;clear c1 c2 c3 c4 c5 c6 d1 d2 d3 d4 d5 d6 T5;obtain⟨c1,c2,c3,c4,c5,c6⟩:=T3.three;rw[if_neg hyn];have hta:=zDn;have htb:=zDo;go_wp2;go_ret;exact⟨_,rfl,rfl,hB⟩
theorem zFm(mv bv xv yv:Value)(R C:Nat)(M:List (List Int))(y:Nat->Int)(xs:List Int)(ps:List (Int × Int))(w:World)(hm:yP w mv R C M)(hF:jK R C M)(hb:qT w bv (zM C y))(hx:qT w xv xs)(hp:zAn w yv ps)(hl:xs.length≠R)(hk:ps.length=0):
  Calls Tryz.prog 20 #[mv,bv,.agg #[.bool true,xv,yv]] w fun e w'=>∃u,e= .returned u/\u= .bool (zE8 R C (ent M) y xs ps.length)/\Below w.heap.size w w':=by
 have HM:=xgv hm;obtain⟨Av,rfl,hrw⟩:=id hm;obtain⟨ao,mn,acap,rfl,e2,e3,e4,-⟩:=id hrw;obtain rfl:R=mn:=by rw[<-e2,hF.1]
 have HF:=xgv hF;have HB:=xgv hb;have HX:=xgv hx;obtain⟨bo,bn,bc,rfl,f2,f3,f4,-⟩:=id hb;obtain rfl:C=bn:=by rw[<-f2,zD]
 obtain⟨xo,xn,xc,rfl,g2,g3,g4,-⟩:=id hx;obtain⟨yo,yn,yc,rfl,k2,k3,k4,-⟩:=id hp;obtain rfl:yn=0:=by omega
 have hxn:((xn:Int)==(R:Int))=false:=beq_eq_false_iff_ne.2 oM;have hdv:decide (qX R C M)=true:=decide_eq_true hF.valid;have hce:zE8 R C (ent M) y xs ps.length=false:=by
  unfold zE8;rw[decide_eq_false hl];simp
 rw[hce];clear hrw hF hm hb hx hp hl hk hce e2 f2 g2 k2;go_enter Tryz.func20,Tryz.ntmps20;go_upto_region 1 with(fail)
 refine zB ?_;intro W0 hW0;obtain⟨hB0,T3,T5,hs0⟩:=qI hW0;obtain⟨c1,c2,c3,c4,c5,c6⟩:=T3.three;clear hW0;go_wp2_with fail
 refine(yK _ R C M W0 (HM.out.below hB0)).mono ?_;rintro e1 w1 ⟨rfl,hb1⟩;rw[hdv];have T3:=T3.below hb1;have T5:=T5.below hb1;have hB:=nx hB0 hb1;clear c1 c2 c3 c4 c5 c6 hdv;go_wp2_with fail
 refine(zAc _ _ w1 (HB.out.below hB)).mono ?_;rintro e2 w2 ⟨rfl,hb2⟩;have T3:=T3.below hb2;have T5:=T5.below hb2;have hB:=nx hB hb2;obtain⟨c1,c2,c3,c4,c5,c6⟩:=T3.three;obtain⟨d1,d2,d3,d4,d5,d6⟩:=T5.three;go_wp2_with fail
 refine(zDT xo yo xn xc 0 yc w2).mono ?_;rintro e3 w3 ⟨rfl,hb3⟩;have T3:=T3.below hb3;have hB:=nx hB hb3;clear c1 c2 c3 c4 c5 c6 d1 d2 d3 d4 d5 d6 T5;obtain⟨c1,c2,c3,c4,c5,c6⟩:=T3.three;rw[if_pos rfl];have hta:=zEO;go_upto_region 6 with(fail)
 refine zE rfl (RV w3 _ [E 0 29 (.slice xo xn xc),VN 1 30 xn,VP 2 31 w.heap.size 0,VN 3 32 R,E 4 33 (.bool false),E 5 34 (.bool false),E 6 35 (undef),E 7 36 (undef),E 8 37 (undef),E 9 38 (undef),E 10 39 (.bool false),E 11 6 (.bool false)]) kR RV.start (RV.fin kR ?fin1) ?steps1
 case steps1=>
  refine⟨?_,?_,?_,?_,?_,?_,?_,?_,?_,?_,?_,?_,trivial⟩<;>(intro L T wS hL hd hcl hI K hK;try refine zA rfl ?_)
  ·exact xgs (hI.k 7 rfl kR)
  ·have zt0:=hI.e mm0 (hd 0)
   go_simp;refine(zFY xo xn xc _).mono ?_;rintro e wa ⟨v,rfl,hv,hba⟩;exact hK _ _ ((hI.world hba).y mm1 hv)
  ·exact xgs (hI.k 3 rfl kR)
  ·have zt2:=hI.e mm2 (hd 2)
   have cc0:=hI.cell c1;exact xgu
  ·exact xgt (hI.e mm1 (hd 1)) (hI.e mm3 (hd 3))
  ·exact xgs (hI.e mm4 (hd 4))
  ·have zg:=hI.e mm5 (hd 5)
   refine qD xgp ?_;exact hK _ _ (hI.y mm6 rfl)
  ·have zg:=hI.e mm5 (hd 5)
   refine qD xgp ?_;exact hK _ _ (hI.y mm7 rfl)
  ·have zg:=hI.e mm5 (hd 5)
   refine qD xgp ?_;exact hK _ _ (hI.y mm8 rfl)
  ·have zg:=hI.e mm5 (hd 5)
   refine qD xgp ?_;exact hK _ _ (hI.y mm9 rfl)
  ·exact xgt (hI.e mm5 (hd 5)) (hI.e mm9 (hd 9))
  ·exact xgs (hI.e zAC (hd 10))
 intro w4 hbw4 T hT;simp only[Fin,E,EI,VP,VSl,VN,xgg,xgh,xgi,xgj]at hT;subst hT;go_wp2;go_ret;exact⟨_,rfl,rfl,nx hB hbw4⟩
theorem zHW(mv bv xv yv:Value)(R C:Nat)(M:List (List Int))(y:Nat->Int)(xs:List Int)(ps:List (Int × Int))(w:World)(hm:yP w mv R C M)(hF:jK R C M)(hb:qT w bv (zM C y))(hx:qT w xv xs)(hp:zAn w yv ps)(hl:xs.length=0)(hk:ps.length≠C):
  Calls Tryz.prog 20 #[mv,bv,.agg #[.bool false,xv,yv]] w fun e w'=>∃u,e= .returned u/\u= .bool (zE9 R C (ent M) y xs.length ps)/\Below w.heap.size w w':=by
 have HM:=xgv hm;obtain⟨Av,rfl,hrw⟩:=id hm;obtain⟨ao,mn,acap,rfl,e2,e3,e4,-⟩:=id hrw;obtain rfl:R=mn:=by rw[<-e2,hF.1]
 have HF:=xgv hF;have HB:=xgv hb;have HX:=xgv hx;obtain⟨bo,bn,bc,rfl,f2,f3,f4,-⟩:=id hb;obtain rfl:C=bn:=by rw[<-f2,zD]
 obtain⟨xo,xn,xc,rfl,g2,g3,g4,-⟩:=id hx;obtain⟨yo,yn,yc,rfl,k2,k3,k4,-⟩:=id hp;obtain rfl:xn=0:=by omega
 have hxn:((yn:Int)==(C:Int))=false:=beq_eq_false_iff_ne.2 oM;have hdv:decide (qX R C M)=true:=decide_eq_true hF.valid;have hce:zE9 R C (ent M) y xs.length ps=false:=by
  unfold zE9;rw[decide_eq_false hk];simp
 rw[hce];clear hrw hF hm hb hx hp hl hk hce e2 f2 g2 k2;go_enter Tryz.func20,Tryz.ntmps20;go_upto_region 1 with(fail)
 refine zB ?_;intro W0 hW0;obtain⟨hB0,T3,T5,hs0⟩:=qI hW0;obtain⟨c1,c2,c3,c4,c5,c6⟩:=T3.three;clear hW0;go_wp2_with fail
 refine(yK _ R C M W0 (HM.out.below hB0)).mono ?_;rintro e1 w1 ⟨rfl,hb1⟩;rw[hdv];have T3:=T3.below hb1;have T5:=T5.below hb1;have hB:=nx hB0 hb1;clear c1 c2 c3 c4 c5 c6 hdv;go_wp2_with fail
 refine(zAc _ _ w1 (HB.out.below hB)).mono ?_;rintro e2 w2 ⟨rfl,hb2⟩;have T3:=T3.below hb2;have T5:=T5.below hb2;have hB:=nx hB hb2;obtain⟨c1,c2,c3,c4,c5,c6⟩:=T3.three;obtain⟨d1,d2,d3,d4,d5,d6⟩:=T5.three;go_wp2_with fail
 refine(zFw xo yo 0 xc yn yc w2).mono ?_;rintro e3 w3 ⟨rfl,hb3⟩;have T3:=T3.below hb3;have hB:=nx hB hb3;clear c1 c2 c3 c4 c5 c6 d1 d2 d3 d4 d5 d6 T5;obtain⟨c1,c2,c3,c4,c5,c6⟩:=T3.three;rw[if_pos rfl];have hta:=zEN;have htb:=zEM;go_upto_region 9 with(fail)
 refine zE rfl (RV w3 _ [E 0 43 (.slice yo yn yc),VN 1 44 yn,VP 2 45 w.heap.size 1,VN 3 46 C,E 4 47 (.bool false),E 5 48 (.bool false),E 6 49 (undef),E 7 50 (undef),E 8 51 (undef),E 9 52 (undef),E 10 53 (.bool false),E 11 6 (.bool false)]) kR RV.start (RV.fin kR ?fin2) ?steps2
 case steps2=>
  refine⟨?_,?_,?_,?_,?_,?_,?_,?_,?_,?_,?_,?_,trivial⟩<;>(intro L T wS hL hd hcl hI K hK;try refine zA rfl ?_)
  ·exact xgs (hI.k 8 rfl kR)
  ·have zt0:=hI.e mm0 (hd 0)
   go_simp;refine(zFA yo yn yc _).mono ?_;rintro e wa ⟨v,rfl,hv,hba⟩;exact hK _ _ ((hI.world hba).y mm1 hv)
  ·exact xgs (hI.k 3 rfl kR)
  ·have zt2:=hI.e mm2 (hd 2)
   have cc0:=hI.cell c2;exact xgu
  ·exact xgt (hI.e mm1 (hd 1)) (hI.e mm3 (hd 3))
  ·exact xgs (hI.e mm4 (hd 4))
  ·have zg:=hI.e mm5 (hd 5)
   refine qD xgp ?_;exact hK _ _ (hI.y mm6 rfl)
  ·have zg:=hI.e mm5 (hd 5)
   refine qD xgp ?_;exact hK _ _ (hI.y mm7 rfl)
  ·have zg:=hI.e mm5 (hd 5)
   refine qD xgp ?_;exact hK _ _ (hI.y mm8 rfl)
  ·have zg:=hI.e mm5 (hd 5)
   refine qD xgp ?_;exact hK _ _ (hI.y mm9 rfl)
  ·exact xgt (hI.e mm5 (hd 5)) (hI.e mm9 (hd 9))
  ·exact xgs (hI.e zAC (hd 10))
 intro w4 hbw4 T hT;simp only[Fin,E,EI,VP,VSl,VN,xgg,xgh,xgi,xgj]at hT;subst hT;go_wp2;go_ret;exact⟨_,rfl,rfl,nx hB hbw4⟩
theorem zL2{R C:Nat}{A:Nat->Nat->Int}{y x:Nat->Int}:zE8 R C A y (zM R x) 0=decide (zM C (fun j=>qE R fun i=>x i*A i j)=zM C y):=by
 have e:zM C (fun j=>qE R fun i=>(zM R x).getD i 0*A i j)=zM C (fun j=>qE R fun i=>x i*A i j):=zP fun j _=>zU fun i hi=>by rw[zBU hi]
 unfold zE8;rw[zD,e];simp
theorem zGX{R C:Nat}{A:Nat->Nat->Int}{y x:Nat->Int}(h:zJz R C A y x):zE8 R C A y (zM R x) 0=true:=by
 rw[zL2,decide_eq_true_eq];exact zP fun j hj=>(h j hj).symm
theorem zLN{C t:Nat}{q:Nat->Rat}(ht:t<C):rqL (jZ C fun t=>prQ (q t)) t=q t:=by
 unfold rqL;rw[xgb,zAh ht];exact Rat.num_divInt_den _
theorem zMf{C:Nat}{q:Nat->Rat}:zC4 (jZ C fun t=>prQ (q t))=true:=List.all_eq_true.2 fun p hp=>by
 obtain⟨t,-,rfl⟩:=List.mem_map.1 hp;exact zOH _
theorem zFG{C:Nat}{v:Nat->Int}{p q:Nat->Rat}(h:∀j,j<C->p j=q j):zBQ C v p=zBQ C v q:=qH fun j hj=>by rw[h j hj]
theorem zNm{n:Nat}{f:Nat->Bool}:((List.range n).all f=true)↔∀i,i<n->f i=true:=by
 rw[List.all_eq_true];exact⟨fun h i hi=>h i (List.mem_range.2 hi),fun h i hi=>h i (List.mem_range.1 hi)⟩
theorem zL3{R C k:Nat}{A:Nat->Nat->Int}{y:Nat->Int}{ps:List (Int × Int)}:zE9 R C A y k ps=true↔k=0/\ps.length=C/\zC4 ps=true/\zLt R C A y (rqL ps):=by
 unfold zE9 zLt;rw[Bool.and_eq_true,Bool.and_eq_true,Bool.and_eq_true,Bool.and_eq_true,decide_eq_true_eq,decide_eq_true_eq,zNm,Bool.not_eq_true'];exact⟨fun h=>⟨h.1.1.1,h.1.1.2.1,h.1.1.2.2,h.1.2,h.2⟩,fun h=>⟨⟨⟨h.1,h.2.1,h.2.2.1⟩,h.2.2.2.1⟩,h.2.2.2.2⟩⟩
theorem zGY{R C:Nat}{A:Nat->Nat->Int}{y:Nat->Int}{q:Nat->Rat}(h:zLt R C A y q):zE9 R C A y 0 (jZ C fun t=>prQ (q t))=true:=
 zL3.2 ⟨rfl,qG _ _,zMf,fun i hi=>by rw[zFG fun j hj=>zLN hj];exact h.1 i hi,by rw[zFG fun j hj=>zLN hj];exact h.2⟩
theorem zLX{R C:Nat}{A:Nat->Nat->Int}{x:Nat->Int}(hR:R<=4)(hA:leM 1000 R C A)(hx:∀i,i<R->(x i).natAbs<2^(6*E40)){j:Nat}(hj:j<C){k:Nat}(hk:k<R):
  Sm (x k)/\Sm (A k j)/\Sm (x k*A k j)/\Sm (qE k fun t=>x t*A t j):=by
 have hp:2^(6*E40)*4096<=BD:=by
  rw[zJv,show(4096:Nat)=2^12 from rfl,<-Nat.pow_add];exact zCH (by have:=zFf;rw[zAP];omega)
 obtain⟨P,hP⟩:∃P,2^(6*E40)=P:=⟨_,rfl⟩;obtain⟨B,hB⟩:∃B,BD=B:=⟨_,rfl⟩;have hs:∀z:Int,z.natAbs<B->Sm z:=fun z h=>zHN (hB ▸ h)
 rw[hP]at hp hx;rw[hB]at hp;have hm:∀t,t<R->(x t*A t j).natAbs<=(P-1)*1000:=fun t ht=>by
  rw[Int.natAbs_mul];exact Nat.mul_le_mul (by have:=hx t ht;omega) (hA t ht j hj)
 have h1:=hx k hk;have h2:=hA k hk j hj;have h3:=hm k hk;have h4:=zIx (n:=k) (f:=fun t=>x t*A t j) fun t ht=>hm t oM
 have h5:k*((P-1)*1000)<=4*((P-1)*1000):=Nat.mul_le_mul_right _ oM;exact⟨hs _ oM,hs _ oM,hs _ oM,hs _ oM⟩
theorem zLY{R C:Nat}{M:List (List Int)}{x:Nat->Int}(hR:R<=4)(hA:leM 1000 R C (ent M))(hx:∀i,i<R->(x i).natAbs<2^(6*E40)):zCt [zM R fun i=>(zM R x).getD i 0] M 1 R C:=by
 rw[zP fun i hi=>zBU hi];intro i hi j hj k hk;obtain rfl:i=0:=by omega
 have e:∀k,k<R->ent [zM R x] 0 k=x k:=fun k hk=>zAU rfl (zO hk)
 have h1:=zLX hR hA hx hj hk;rw[e k hk];refine⟨h1.1,h1.2.1,h1.2.2.1,?_⟩;unfold zCj;rw[zCL,zU fun t ht=>by rw[e t oM]];exact h1.2.2.2
theorem zIB{R C:Nat}{M:List (List Int)}{x:Nat->Int}(hR:R<=4)(hA:leM 1000 R C (ent M))(hx:∀i,i<R->(x i).natAbs<2^(6*E40)):zCa (zM R x) M R C:=fun j hj t ht=>by
 have h1:=zLX hR hA hx hj ht;rw[zBU ht,zIp,zU fun i hi=>by rw[zBU oM]];exact h1
def zO6(f:Bool)(R C:Nat)(A:Nat->Nat->Int)(y:Nat->Int)(xs:List Int)(ps:List (Int × Int)):Bool:=if f=true then zE8 R C A y xs ps.length else zE9 R C A y xs.length ps
theorem zI7{e h:Nat}(f:Bool)(mv bv xv yv:Value)(R C:Nat)(M:List (List Int))(y:Nat->Int)(xs:List Int)(ps:List (Int × Int))(w:World)(hm:yP w mv R C M)(hF:jK R C M)(hb:qT w bv (zM C y))(hx:qT w xv xs)(hp:zAn w yv ps)(hR:R<=1000)(hC:C<=1000)
  (hS:xs.length=R->zCa xs M R C) (hps:∀p∈ps,p.1.natAbs<2^e/\p.2.natAbs<2^e) (hM:∀a,a<R->∀b,b<C->(ent M a b).natAbs<2^h) (hy:∀j,j<C->(y j).natAbs<2^h) (hh:1<=h) (he:e+h+1<=900):
  Calls Tryz.prog 20 #[mv,bv,.agg #[.bool f,xv,yv]] w fun e w'=>∃u,e= .returned u/\u= .bool (zO6 f R C (ent M) y xs ps)/\Below w.heap.size w w':=by
 cases f
 ·by_cases h1:xs.length=0
  ·by_cases h2:ps.length=C
   ·exact zFB mv bv xv yv R C M y xs ps w hm hF hb hx hp hC hps hM hy hh he h1 h2
   ·exact zHW mv bv xv yv R C M y xs ps w hm hF hb hx hp h1 h2
  ·exact zHX mv bv xv yv R C M y xs ps w hm hF hb hx hp h1
 ·by_cases h1:ps.length=0
  ·by_cases h2:xs.length=R
   ·exact zDp mv bv xv yv R C M y xs ps w hm hF hb hx hp hR hC hS h2 h1
   ·exact zFm mv bv xv yv R C M y xs ps w hm hF hb hx hp h2 h1
  ·exact zFn mv bv xv yv R C M y xs ps w hm hF hb hx hp h1
theorem zPN{z:Int}(h:z.natAbs<=1000000):z.natAbs<2^20:=Nat.lt_of_le_of_lt h dE
theorem zNY{C e:Nat}{q:Nat->Rat}(h:∀t,t<C->HQ e (q t)):∀p∈jZ C fun t=>prQ (q t),p.1.natAbs<2^e/\p.2.natAbs<2^e:=fun p hp=>by
 obtain⟨t,ht,rfl⟩:=List.mem_map.1 hp;exact h t (List.mem_range.1 ht)
theorem zIw(mv bv u:Value)(R C:Nat)(M:List (List Int))(y:Nat->Int)(w:World)(hs:zGH R C (ent M) y w u)(hm:yP w mv R C M)(hF:jK R C M)(hb:qT w bv (zM C y))(hR:R<=4)(hC:C<=4)(hA:leM 1000 R C (ent M))(hy:∀j,j<C->(y j).natAbs<=1000000):
  Calls Tryz.prog 19 #[mv,bv,u] w fun e w'=>∃u,e= .returned u/\u= .bool true/\Below w.heap.size w w':=by
 rcases hs with⟨xv,x,rfl,hx,h1,h2⟩|⟨yv,q,rfl,hp,h1,h2⟩
 ·have:=zEy mv bv xv (.slice none 0 0) R C M y _ [] w hm hF hb hx (zAn.nil w) oM oM (zLY hR hA h2)
  rwa[show zE8 R C (ent M) y (zM R x) ([]:List (Int × Int)).length=true from zGX h1]at this
 ·have:=zGt (e:=170) (h:=20) mv bv (.slice none 0 0) yv R C M y [] _ w hm hF hb (qT.nil w) hp oM oM (zNY h2) (fun a ha b hb=>zPN (Nat.le_trans (hA a ha b hb) dE)) (fun j hj=>zPN (hy j hj)) dE dE
  rwa[show zE9 R C (ent M) y ([]:List Int).length (jZ C fun t=>prQ (q t))=true from zGY h1]at this
theorem zLa(mv bv u:Value)(R C:Nat)(M:List (List Int))(y:Nat->Int)(w:World)(hs:zGH R C (ent M) y w u)(hm:yP w mv R C M)(hF:jK R C M)(hb:qT w bv (zM C y))(hR:R<=4)(hC:C<=4)(hA:leM 1000 R C (ent M))(hy:∀j,j<C->(y j).natAbs<=1000000):
  Calls Tryz.prog 20 #[mv,bv,u] w fun e w'=>∃u,e= .returned u/\u= .bool true/\Below w.heap.size w w':=by
 rcases hs with⟨xv,x,rfl,hx,h1,h2⟩|⟨yv,q,rfl,hp,h1,h2⟩
 ·have:=zDp mv bv xv (.slice none 0 0) R C M y _ [] w hm hF hb hx (zAn.nil w) oM oM (fun _=>zIB hR hA h2) (zD _ _) rfl
  rwa[show zE8 R C (ent M) y (zM R x) ([]:List (Int × Int)).length=true from zGX h1]at this
 ·have:=zFB (e:=170) (h:=20) mv bv (.slice none 0 0) yv R C M y [] _ w hm hF hb (qT.nil w) hp oM (zNY h2) (fun a ha b hb=>zPN (Nat.le_trans (hA a ha b hb) dE)) (fun j hj=>zPN (hy j hj)) dE dE rfl (qG _ _)
  rwa[show zE9 R C (ent M) y ([]:List Int).length (jZ C fun t=>prQ (q t))=true from zGY h1]at this
end Go.Proofs.YtnbmaipobhppcaaGreat
