/- torsionref14.Check at a column. matrix.Times, which defers a recover. Package bareiss: replaced. Package bareiss: exchange. Package bareiss: step. Lists of rows: append. Package bareiss: run. Package bareiss: run. Package bareiss: the equations of Solve. -/
import Derived.Defers
import Derived.Recover
import Derived.Scope
import Derived.Test.YtnbmaipobhppcaaGreatE04
import Derived.Test.YtnbmaipobhppcaaGreatE05
import Derived.Test.YtnbmaipobhppcaaGreatE07
import Derived.Test.YtnbmaipobhppcaaGreatE08
import Derived.Test.YtnbmaipobhppcaaGreatE09
import Derived.Test.YtnbmaipobhppcaaGreatE11
set_option linter.unusedVariables false
set_option linter.unusedSimpArgs false
set_option linter.unusedSectionVars false
set_option maxHeartbeats 16000000
set_option maxRecDepth 100000
namespace Go.Proofs.YtnbmaipobhppcaaGreat
open Go.RowKit
theorem zD2{e h:Nat}(mv bv xv yv:Value)(R C:Nat)(M:List (List Int))(y:Nat->Int)(xs:List Int)(ps:List (Int × Int))(w:World)(hm:jE w mv R C M)(hF:jT R C M)(hb:qN w bv (zM C y))(hx:qN w xv xs)(hp:jY w yv ps)(hR:R<=1000)(hC:C<=1000)
  (hps:∀p∈ps,p.1.natAbs<2^e/\p.2.natAbs<2^e) (hM:∀a,a<R->∀b,b<C->(ent M a b).natAbs<2^h) (hy:∀j,j<C->(y j).natAbs<2^h) (hh:1<=h) (he:e+h+1<=900):
  Calls Tryz.prog 19 #[mv,bv,.agg #[.bool false,xv,yv]] w fun e w'=>∃u,e= .returned u/\u= .bool (zE2 R C (ent M) y xs.length ps)/\Below w.heap.size w w':=by
 have HM:=xgv hm;obtain⟨Av,rfl,hrw⟩:=id hm;obtain⟨ao,mn,acap,rfl,e2,e3,e4,-⟩:=id hrw;obtain rfl:R=mn:=by rw[<-e2,hF.1]
 have HF:=xgv hF;have HB:=xgv hb;have HX:=xgv hx;have HP:=xgv hp;have HPB:=xgv hps;have HMB:=xgv hM;have HYB:=xgv hy;obtain⟨bo,bn,bc,rfl,f2,f3,f4,-⟩:=id hb;obtain rfl:C=bn:=by rw[<-f2,zD]
 obtain⟨xo,xn,xc,rfl,g2,g3,g4,-⟩:=id hx;obtain⟨yo,yn,yc,rfl,k2,k3,k4,-⟩:=id hp;have HXN:=xgv g2;have HEC:qE (C*(e+h+1)+1<=1000000):=⟨by
  have:C*(e+h+1)<=1000*900:=Nat.mul_le_mul oM he;omega⟩
 obtain⟨ans,hans⟩:∃ans,zE2 R C (ent M) y xs.length ps=ans:=⟨_,rfl⟩;rw[hans];have HA:=xgv hans;have HYN:=xgv k2;clear hrw hF hm hb hx hp e2 f2 g2 k2 hans hps hM hy;go_enter Tryz.func19,Tryz.ntmps19;go_upto_region 1 with(fail)
 refine zB ?_;intro W0 hW0;obtain⟨hB0,T3,T5,hs0⟩:=qH hW0;obtain⟨c1,c2,c3,c4,c5,c6⟩:=T3.three;clear hW0;go_wp2_with fail
 refine(zI5 _ R C M W0 (HM.out.below hB0) HF.out).mono ?_;rintro e1 w1 ⟨rfl,hb1⟩;have T3:=T3.below hb1;have T5:=T5.below hb1;have hB:=nx hB0 hb1;clear c1 c2 c3 c4 c5 c6;go_wp2_with fail
 refine(zAq _ _ w1 (HB.out.below hB)).mono ?_;rintro e2 w2 ⟨rfl,hb2⟩;have T3:=T3.below hb2;have T5:=T5.below hb2;have hB:=nx hB hb2;obtain⟨c1,c2,c3,c4,c5,c6⟩:=T3.three;obtain⟨d1,d2,d3,d4,d5,d6⟩:=T5.three;by_cases hxl:(xn:Int)=0
 ·obtain rfl:xn=0:=by omega
  have hvl:=zLy (.slice yo yn yc) ps C w2 (HP.out.below hB) HPB.out oM;obtain⟨vb,hvb⟩:∃vb,(decide ((ps.length:Int)=(C:Int)) && zC3 ps)=vb:=⟨_,rfl⟩;rw[hvb]at hvl;have HVB:=xgv hvb;have HVL:=xgv hvl;clear hvb hvl;go_wp2_with fail
  refine HVL.out.mono ?_;rintro e3 w3 ⟨_,rfl,rfl,hb3⟩;have T3:=T3.below hb3;have T5:=T5.below hb3;have hB:=nx hB hb3;clear c1 c2 c3 c4 c5 c6 d1 d2 d3 d4 d5 d6 HVL;obtain⟨c1,c2,c3,c4,c5,c6⟩:=T3.three;obtain⟨d1,d2,d3,d4,d5,d6⟩:=T5.three;cases vb
  ·go_wp2
   go_ret;refine⟨_,rfl,?_,hB⟩;rw[<-HA.out];have h1:=HVB.out;rw[show decide ((ps.length:Int)=(C:Int))=decide (ps.length=C) from decide_eq_decide.2 ⟨fun g=>by omega,fun g=>by omega⟩]at h1;unfold zE2;rw[h1];simp
  ·have hv:=HVB.out
   rw[Bool.and_eq_true,decide_eq_true_eq]at hv;have hv1:ps.length=C:=by omega
   have hyl:yn=C:=by rw[<-HYN.out,hv1]
   subst hyl;have hpe:=zIn hv.2;rw[hv1]at hpe;have hq:∀j,j<yn->HQ e (rqL ps j):=fun j hj=>zNt hv.2 HPB.out oM
   have HLOW:=xgv hv.2;have hpv:jY w3 (.slice yo yn yc) (zAC yn fun t=>prQ (rqL ps t)):=by rw[<-hpe];exact HP.out.below hB
   have HPV:=xgv hpv;have HQS:=xgv hq;have HA2:qE ((((List.range R).all fun i=>isZ (zBU yn (ent M i) (rqL ps))) && !isZ (zBU yn y (rqL ps)))=ans):=⟨by
    rw[<-HA.out];unfold zE2;rw[HXN.out,hv1,hv.2];simp⟩
   obtain⟨q,hqq⟩:∃q,rqL ps=q:=⟨_,rfl⟩;rw[hqq]at HPV HQS HA2;clear hv hpe hq hpv hqq HVB HLOW hv1;go_wp2_with fail
   refine(zJp (e:=e) (h:=h) _ _ R yn M q w3 (HM.out.below hB) HPV.out HF.out HMB.out hh HQS.out hR hC he).mono ?_;rintro e4 w4 ⟨u,rfl,hu,hb4⟩;obtain⟨co,cn,cc,rfl,l2,l3,l4,-⟩:=id hu;obtain rfl:R=cn:=by rw[<-l2,qG]
   have T5:=T5.below hb4;have hB:=nx hB hb4;have HU:=xgv hu;have HPV:=xgv (HPV.out.below hb4);clear hu l2 c1 c2 c3 c4 c5 c6 d1 d2 d3 d4 d5 d6 T3;go_wp2;go_loopw [8] (fun iv wr=>∃i:Nat,i<=R/\iv= .int .i64 i/\Below w4.heap.size w4 wr/\qE (∀k,k<i->isZ (zBU yn (ent M k) q)=true)) (fun iv _=>R-(intOf iv).toNat)
   case atStart=>exact⟨0,by omega,rfl,Below.refl _ _,⟨fun k hk=>by omega⟩⟩
   case round=>
    obtain⟨i,hi,rfl,hb,hall⟩:=hrel;by_cases hlt:i<R
    ·obtain⟨bc_,s,o,l,c,s',o',l',c',rfl,hbc,e1,e2,e3,e4,hrat⟩:=zGH (HU.out.below hb) hlt
     have HRAT:=xgv hrat;have HBD:=xgv (HQ.dot (n:=yn) (x:=ent M i) (fun j hj=>HMB.out i hlt j hj) hh HQS.out);clear hrat;go_wp2_with fail
     refine(zCa _ (zBU yn (ent M i) q) wr HRAT.out HBD.out HEC.out).mono ?_;rintro e5 w5 ⟨_,rfl,rfl,hb5⟩;cases hz:isZ (zBU yn (ent M i) q)
     ·go_wp2
      go_ret;refine⟨_,rfl,?_,nx hB (nx hb hb5)⟩;rw[<-HA2.out];have:((List.range R).all fun i=>isZ (zBU yn (ent M i) q))=false:=List.all_eq_false.2 ⟨i,List.mem_range.2 hlt,by rw[hz];decide⟩;rw[this];rfl
     ·go_wp2
      go_roundw
      case rel=>exact⟨i+1,by omega,by simp,nx hb hb5,⟨fun k hk=>by
       rcases Nat.lt_or_ge k i with g|g
       ·exact hall.out k g
       ·obtain rfl:k=i:=by omega
        exact hz⟩⟩
      case measure=>simp[intOf];omega
    ·obtain rfl:i=R:=by omega
     have T5:=T5.below hb;have hB:=nx hB hb;obtain⟨d1,d2,d3,d4,d5,d6⟩:=T5.three;have HBD:=xgv (HQ.dot (n:=yn) (x:=y) HYB.out hh HQS.out);go_wp2_with fail
     refine(zLV (e:=e) (h:=h) _ _ yn y q wr (HB.out.below hB) (HPV.out.below hb) HYB.out hh HQS.out hC he).mono ?_;rintro e5 w5 ⟨rv,rfl,hrv,hb5⟩;have HRV:=xgv hrv;clear hrv;go_wp2_with fail
     refine(zCa _ (zBU yn y q) w5 HRV.out HBD.out HEC.out).mono ?_;rintro e6 w6 ⟨_,rfl,rfl,hb6⟩;go_wp2;go_ret;refine⟨_,rfl,?_,nx (nx hB hb5) hb6⟩;rw[<-HA2.out];have:((List.range i).all fun i=>isZ (zBU yn (ent M i) q))=true:=List.all_eq_true.2 fun k hk=>hall.out k (List.mem_range.1 hk)
     rw[this];rfl
 ·go_wp2
  go_ret;refine⟨_,rfl,?_,hB⟩;rw[<-HA.out];unfold zE2;rw[HXN.out,decide_eq_false (show ¬ xn=0 by omega)];simp
theorem zIV(w:World):CallsD Tryz.prog 166 #[] .returning w fun e u' w'=>e= .returned (.tuple #[])/\u'= .returning/\w'=w:=by
 refine callsD_of_wpS Tryz.func166 rfl fun c₀ cs hu=>?_
 apply wpS_region;cases c₀;simp_all [wpOpsS,go_sem,recoverD,Tryz.ntmps166,bodyPostS,results,Tryz.results166]
theorem zFY(v mv:Value)(zs:List Int)(M:List (List Int))(m C:Nat)(w:World)(hv0:qN w v zs)(hM:jE w mv m C M)(hl:zs.length=m)(hF:jT m C M)(hm:m<=1000000)(hC:C<=1000000)(hS:zBu zs M m C):
  Calls Tryz.prog 73 #[v,mv] w fun e w'=>∃v,e= .returned (.tuple #[v,.int .i64 0])/\zDp w.heap.size C (zM C (zCb zs M m)) w' v/\Below w.heap.size w w':=by
 have hdv:decide (qX m C M)=true:=decide_eq_true hF.valid;have HM:=xgv hM;obtain⟨A,rfl,hM⟩:=hM;obtain⟨ao,n,cap,rfl,e2,e3,e4,-⟩:=id hM;obtain rfl:m=n:=by rw[<-e2,hF.1]
 have HV:=xgv hv0;obtain⟨vo,n1,vcap,rfl,f1,f3,f4,-⟩:=id hv0;obtain rfl:m=n1:=by omega
 have HL:=xgv hl;have HF:=xgv hF;have HS:=xgv hS;clear hl hF hS e2 f1 hM hv0;have hmf:∀(fn:Fn) (first cap:Array Value) (w:World),(Instr.makeFunc fn first cap).run Tryz.prog w= .ok (.func fn first cap) w:=fun _ _ _ _=>rfl
 go_enter_defers Tryz.func73,Tryz.ntmps73;go_upto_region 1 with(fail)
 refine zB ?_;intro W0 hW0;obtain⟨hB0,bx,hs0⟩:=zK hW0;obtain⟨c1,c2,c3,c4,c5,c6⟩:=bx.three;clear hW0;go_wp2_with fail
 refine(yF _ m C M W0 (HM.out.below hB0)).mono ?_;rintro e w1 ⟨rfl,hb1⟩;rw[hdv];have bx:=bx.below hb1;have hB:=nx hB0 hb1;clear c1 c2 c3 c4 c5 c6;obtain⟨c1,c2,c3,c4,c5,c6⟩:=bx.three;go_wp2_with fail
 refine(zJh _ _ zs M m C w1 (HV.out.below hB) (HM.out.below hB) HL.out HF.out hm hC HS.out).mono ?_;rintro e w2 ⟨v2,rfl,hr,hb2⟩;have hB2:=nx hB hb2;have q:=hB.size;go_wp2;refine leaves_cons (f:=166) (args:=#[]) sI (by simp[go_sem]) ?_;refine(zIV _).mono ?_;rintro e u' w'' ⟨rfl,rfl,rfl⟩;obtain⟨g,rfl,hg,hr⟩:=hr;have HR:=xgv (show zDp w.heap.size C (zM C (zCb zs M m)) w'' (.slice (some ⟨g,0,none⟩) C C) from⟨g,rfl,by omega,hr⟩);simp only[Leaves,settle];simp[results,Tryz.results73,go_sem];exact⟨HR.out,hB2⟩
abbrev tBe:TypeId:=284
theorem zEB{w:World}{b i:Nat}{u v:Value}(hx:yI w ((w.setCell ⟨b,i,none⟩ u).setCell ⟨b,i+1,none⟩ v)):qU [b] w ((w.setCell ⟨b,i,none⟩ u).setCell ⟨b,i+1,none⟩ v):=
 ⟨zO (zO (Below.refl _ _) (Nat.zero_le _) _ _) (Nat.zero_le _) _ _,hx,fun k hk hn=>zV w b i (i+1) k u v (fun e=>hn (by rw[e];simp))⟩
theorem zCx{z:Int}:qJ z 0=0↔z=0:=by
 unfold qJ;split
 ·constructor<;>intro h<;>omega
 ·split
  ·constructor<;>intro h<;>omega
  ·constructor<;>intro h<;>omega
theorem zD3{e:Nat}(b m c:Nat)(xo zo:Option Addr)(xc zc:Nat)(rv pv:Value)(ln od:Bool)(la:Option Addr)(ll lc:Nat)(x z:Nat->Int)(q:Int)(w:World)(hb:Blk w b tBe #[rv,.bool ln,.slice la ll lc,.bool od,pv])(hq:zH w (.agg #[.bool ln,.slice la ll lc]) q)
  (hx:qN w (.slice xo m xc) (zM m x)) (hz:qN w (.slice zo m zc) (zM m z)) (hc:c<m) (hm:m<=1000000) (hq0:q≠0) (he:2*e+1<=1000000) (hqe:q.natAbs<2^e) (hxe:∀j,j<m->(x j).natAbs<2^e) (hze:∀j,j<m->(z j).natAbs<2^e):
  Calls Tryz.prog 304 #[.pointer (some ⟨b,0,none⟩),.slice xo m xc,.slice zo m zc,.int .i64 c] w fun e w'=>e= .returned (.slice (some ⟨w.heap.size,0,none⟩) m m)/\qC w' w.heap.size (zM m fun j=>(z c*x j-x c*z j)/q)/\Below w.heap.size w w':=by
 have HX:=xgv hx;have HZ:=xgv hz;have HQ:=xgv hq;have HSM:qE (Sm q/\(∀j,j<m->Sm (x j)/\Sm (z j)/\Sm (z c*x j)/\Sm (x c*z j)/\Sm (z c*x j-x c*z j))):=⟨qL hqe oM,fun j hj=>⟨qL (hxe j hj) oM,qL (hze j hj) oM,qL (zM1 (hze c hc) (hxe j hj)) oM,qL (zM1 (hxe c hc) (hze j hj)) oM,qL (zRM (zM1 (hze c hc) (hxe j hj)) (zM1 (hxe c hc) (hze j hj))) oM⟩⟩;have HQ0:=xgv hq0;obtain⟨F,hF⟩:∃F:Nat->Int,(fun j=>(z c*x j-x c*z j)/q)=F:=⟨_,rfl⟩;have HFE:qE (∀j,F j=(z c*x j-x c*z j)/q):=⟨fun j=>by rw[<-hF]⟩;rw[hF];have hbl:=hb.lt;clear hx hz hq hq0 he hqe hxe hze hF;have hmk:=fun W=>mkI (m:Int) m rfl oM W
 go_enter Tryz.func304,Tryz.ntmps304;go_upto_region 2 with(fail)
 refine zB ?_;intro W0 hW0;have hB0:Below w.heap.size w W0:=by rw[hW0.out];exact(Below.refl _ _).alloc (xgf _) _
 have hr:qC W0 w.heap.size (zM m (qA F (fun _=>0) 0)):=by
  rw[zCO,hW0.out];obtain⟨_,h1,-,h2⟩:=zCR (w:=w) (lo:=0) (n:=m) (Nat.zero_le _);injection h1 with h1
  injection h1 with h1
  injection h1 with h1
  rw[h1];exact h2
 clear hW0;go_wp2;go_loopw [18] (fun iv wr=>∃j:Nat,j<=m/\iv= .int .i64 j/\Below w.heap.size w wr/\qC wr w.heap.size (zM m (qA F (fun _=>0) j))) (fun iv _=>m-(intOf iv).toNat)
 case atStart=>exact⟨0,by omega,rfl,hB0,hr⟩
 case round=>
  clear hB0 hr;obtain⟨j,hj,rfl,hB,hr⟩:=hrel;by_cases hlt:j<m
  ·have hb:=hb.below hB
   have HX:=xgv (HX.out.below hB);have HZ:=xgv (HZ.out.below hB);have HQ:=xgv (HQ.out.below hB (xgf _));obtain⟨xb,xj,s1,a1,l1,k1,rfl,lx1,hxj,p1,p2,hv1⟩:=HX.out.cell (k:=j) (by rw[zD];exact hlt);obtain⟨xb',xcv,s2,a2,l2,k2,e2,-,hxc,p3,p4,hv2⟩:=HX.out.cell (k:=c) (by rw[zD];exact hc);injection e2 with e2
   injection e2 with e2
   subst e2;obtain⟨zb,zj,s3,a3,l3,k3,rfl,lz1,hzj,p5,p6,hv3⟩:=HZ.out.cell (k:=j) (by rw[zD];exact hlt);obtain⟨zb',zcv,s4,a4,l4,k4,e4,-,hzc,p7,p8,hv4⟩:=HZ.out.cell (k:=c) (by rw[zD];exact hc);injection e4 with e4
   injection e4 with e4
   subst e4;rw[zP hlt]at hxj hzj;rw[zP hc]at hxc hzc;injection hxj with hxj
   injection hzj with hzj
   injection hxc with hxc
   injection hzc with hzc
   have HS:=xgv (HSM.out.2 j hlt);have HSC:=xgv (HSM.out.2 c hc);have HFJ:=xgv (HFE.out j);rw[hxj,hzj,hxc,hzc]at HS HFJ;rw[hxc,hzc]at HSC;have V1:=xgv hv1;have V2:=xgv hv2;have V3:=xgv hv3;have V4:=xgv hv4;clear hv1 hv2 hv3 hv4 hxj hzj hxc hzc;go_upto_region 5 with(fail)
   refine zB ?_;intro W4 hW4;obtain⟨hB4,T4,hs4⟩:=zK hW4;have p3:=zI p3 hB4;have p4:=zI p4 hB4;have p5:=zI p5 hB4;have p6:=zI p6 hB4;have p7:=zI p7 hB4;have p8:=zI p8 hB4;have hb:=hb.below hB4;have hr:=hr.below hB4;have hB5:=nx hB hB4;have hQ4:=HQ.out.below hB4 (xgf _);have V1:=xgv (V1.out.below hB4 (xgf _));have V2:=xgv (V2.out.below hB4 (xgf _));have V3:=xgv (V3.out.below hB4 (xgf _));have V4:=xgv (V4.out.below hB4 (xgf _));have HQ:=xgv hQ4;obtain⟨g1,g2,g3,g4⟩:=T4.two;have ltz:=lz1;have ltx:=lx1;have lt4:=T4.lt;have q4:=hB4.size;have ltr:=hr.lt;clear hW4 p1 p2 hQ4;refine zE rfl (RI W4 (W4.heap.size) _ 35
     [VSl 0 23 zb m zc,VN 1 24 c,VP 2 25 zb (c*2),E 3 26 (.agg #[.bool s4,.slice a4 l4 k4]),E 4 27 (.agg #[.bool s1,.slice a1 l1 k1]),EI 5 28 (zcv*xj)] [⟨6,12,7,fun w v=>zH w v (zcv*xj)⟩] []) kR RI.start ?fin1 ?steps1
   case steps1=>
    (repeat' constructor)<;>(intro L T wS hL hd hcl hI K hK;try refine zA rfl ?_)
    ·exact xgs (hI.k 2 rfl kR)
    ·exact xgs (hI.k 3 rfl kR)
    ·exact xgt (hI.e mm0 (hd 0)) (hI.e mm1 (hd 1))
    ·have zt2:=hI.e mm2 (hd 2)
     have cc0:=hI.cell p7 oM nom;have cc1:=hI.cell p8 oM nom;exact xgu
    ·have zt:=hI.k 11 rfl kR
     have cc0:=hI.cell g1 oM nom;have cc1:=hI.cell g2 oM nom;exact xgu
    ·have zt3:=hI.e mm3 (hd 3)
     have zt4:=hI.e mm4 (hd 4);go_simp;refine(jO _ _ zcv xj _ (V4.out.ext hI.lext).weak (V1.out.ext hI.lext).weak HSC.out.2.1 HS.out.1).mono ?_;exact xgo
    ·go_simp
     exact hK _ _ (hI.alloc ⟨6,12,7,_⟩ mm0 rfl hL)
    ·obtain⟨v,t1,hv⟩:=hI.vi mm5 (hd 5)
     obtain⟨b,x,y,t2,hb1,hb2,-⟩:=hI.box _ mm0 (hd 6);obtain⟨vneg,vao,vlen,vcap,vls,rfl,hv'⟩:=id hv;have HT:=xgw t2;unfold ptr at t2;obtain⟨k1,k2,k3,k4⟩:=hb2.two;go_simp;exact hK _ _ (hI.store ⟨6,12,7,_⟩ mm0 rfl (hd 6) HT.out hv)
   intro T w5 hI;have hT:=hI.finx kR kR;have hlw5:=hI.lext;have hbw5:=hI.bel (W4.heap.size) oM nom;have holdw5:=hI.old;clear hI;simp only[zEN,zD7,E,EI,ptr,xgm,List.not_mem_nil,false_implies,implies_true,and_true,true_and,xgg,xgh,xgi,xgj]at hT;obtain⟨va5,ha5,ca6,xa6,ya6,ga6,ka6,ia6,rfl⟩:=hT;have T12:=jU.mk ka6 ia6;have hb:=hb.below hbw5;have hr:=hr.below hbw5;have hB6:=nx hB5 hbw5;have V2:=xgv (V2.out.ext (lx hbw5));obtain⟨t1,ta,tl,tc,T12,i12⟩:=id T12;have V12:=xgv i12;have p3:=zI p3 hbw5;have p4:=zI p4 hbw5;have p5:=zI p5 hbw5;have p6:=zI p6 hbw5;have hQ5:=HQ.out.ext (lx hbw5);have V3:=xgv (V3.out.ext (lx hbw5));have HQ:=xgv hQ5;have ltc:=ka6.lt;clear hQ5 i12 ka6 ia6 ha5 g1 g2 g3 g4 p7 p8;have ga:=ga6;go_upto_region 6 with(fail)
   rename_i K1 hK1 K0 hK0;have HK1:=xgv hK1;obtain⟨V,hV⟩:∃V,zcv*xj-xcv*zj=V:=⟨_,rfl⟩;have HVE:=xgv hV;have HSV:qE (Sm V):=⟨by rw[<-hV];exact HS.out.2.2.2.2⟩;have HFV:qE (F j=V/q):=⟨by rw[HFJ.out,hV]⟩;clear hK1 hV HFJ ga6;have body:∀{u19 u20 u21 u22 u23 u24 u25 u26 u27 u28 u29 u30 u31 u32 u33 u34 u35 u36 u37 u38 u39 u40 u41 u42 u43 u44 u45 u46 u47 u48 u49 u50 u51 u52 u53 u54 u55 u56 u57 u58 u59 u60 u61 u62 u63 u64 u65 u66 u67:Value} (wX:World),qU [ca6] w5 wX->jU wX ca6 V->K1 {tmps:=#[.pointer (some ⟨b,0,none⟩),.slice (some ⟨xb,0,none⟩) m xc,.slice (some ⟨zb,0,none⟩) m zc,.int .i64 c,undef,undef,undef,undef,.slice none 0 0,.slice (some ⟨w.heap.size,0,none⟩) m m,.int .i64 j,.pointer (some ⟨wr.heap.size,0,none⟩),.pointer (some ⟨ca6,0,none⟩),.slice (some ⟨xb,0,none⟩) m xc,.int .i64 m,.slice (some ⟨w.heap.size,0,none⟩) m m,.slice (some ⟨xb,0,none⟩) m xc,.int .i64 m,.int .i64 j,u19,u20,u21,u22,u23,u24,u25,u26,u27,u28,u29,u30,u31,u32,u33,u34,u35,u36,u37,u38,u39,u40,u41,u42,u43,u44,u45,u46,u47,u48,u49,u50,u51,u52,u53,u54,u55,u56,u57,u58,u59,u60,u61,u62,u63,u64,u65,u66,u67,undef],defers:=[]} wX:=by
    intro u19 u20 u21 u22 u23 u24 u25 u26 u27 u28 u29 u30 u31 u32 u33 u34 u35 u36 u37 u38 u39 u40 u41 u42 u43 u44 u45 u46 u47 u48 u49 u50 u51 u52 u53 u54 u55 u56 u57 u58 u59 u60 u61 u62 u63 u64 u65 u66 u67 wX hX hT;refine HK1.out _ _ ?_;have qB:=hB.size;have hbX:Blk wX b tBe #[rv,.bool ln,.slice la ll lc,.bool od,pv]:=(hX.old _ hb.lt (by simp;omega)).trans hb;have hrX:=hr.only hX (by simp;omega);have hQX:=HQ.out.ext hX.lext;have hBX:Below w.heap.size w wX:=Below.only hB6 hX (xgf _) (fun k hk=>by simp at hk;omega);obtain⟨t1,ta,tl,tc,T12,i12⟩:=hT;have V12:=xgv i12;have HQ:=xgv hQX;have e1:=hbX.cell 1;have e2:=hbX.cell 2;obtain⟨f1,f2,f3,f4⟩:=T12.two;have n1:=hbX.lt;have n2:=hrX.lt;have n3:=T12.lt;have hl3:=zFV V q;have hl4:qK (fun _ _=>True):=fun _ _ _ _ _=>trivial
    clear HK1 hK0 hX hb hr hQX hB6 i12 hB5 hB4 hB p3 p4 p5 p6 lx1 lz1;refine zE rfl (RAS ([]) 99 wX _ [⟨0,55,fun _ v=>v= .slice (some ⟨w.heap.size,0,none⟩) m m⟩,⟨1,56,fun _ v=>v= .int .i64 j⟩,⟨2,57,fun _ v=>v= .agg #[.bool t1,.slice ta tl tc]⟩,⟨3,58,fun _ v=>v= .pointer (some ⟨b,0,none⟩)⟩,⟨4,59,fun _ v=>v= .pointer (some ⟨b,0,none⟩)⟩,⟨5,60,fun _ v=>v= .pointer (some ⟨b,1,none⟩)⟩,⟨6,61,fun _ v=>v= .agg #[.bool ln,.slice la ll lc]⟩,⟨7,62,DMV V q⟩,⟨8,54,DMV V q⟩,⟨9,63,fun w v=>zH w v (V/q)⟩,⟨10,64,fun _ _=>True⟩,⟨11,65,fun _ v=>v= .int .i64 0⟩,⟨12,66,fun _ v=>v= .pointer (some ⟨w.heap.size,j*2,none⟩)⟩] 13 (zOt 66 63)) kR (RAS.start (RA.start kR (by repeat' (first|exact yL _|exact jC _|exact jD _ _ _|exact qZ _|assumption|refine xgm.2 ⟨?_,?_⟩|exact xgn _)))) ?fin2 ?steps2
    case steps2=>
     refine⟨?_,?_,?_,?_,?_,?_,?_,?_,?_,?_,?_,?_,?_,?_,trivial⟩
     ·refine zF.liftA kR dE ?_
      intro L T wS hL hd hcl hI K hK;try refine zA rfl ?_
      have zt:T[9]?=some (.slice (some ⟨w.heap.size,0,none⟩) m m):=hI.keep 9 sI;go_simp;exact hK _ _ (hI.y mm0 rfl)
     ·refine zF.liftA kR dE ?_
      intro L T wS hL hd hcl hI K hK;try refine zA rfl ?_
      have zt:T[10]?=some (.int .i64 j):=hI.keep 10 sI;go_simp;exact hK _ _ (hI.y mm1 rfl)
     ·refine zF.liftA kR dE ?_
      intro L T wS hL hd hcl hI K hK;try refine zA rfl ?_
      have zt:T[12]?=some (.pointer (some ⟨ca6,0,none⟩)):=hI.keep 12 sI;have cc0:=hI.cell (sI) oM f1;have cc1:=hI.cell (sI) oM f2;go_simp;exact hK _ _ (hI.y mm2 rfl)
     ·refine zF.liftA kR dE ?_
      intro L T wS hL hd hcl hI K hK;try refine zA rfl ?_
      have zt:T[0]?=some (.pointer (some ⟨b,0,none⟩)):=hI.keep 0 sI;go_simp;exact hK _ _ (hI.y mm3 rfl)
     ·refine zF.liftA kR dE ?_
      intro L T wS hL hd hcl hI K hK;try refine zA rfl ?_
      obtain⟨_,zt3,rfl⟩:=hI.v mm3 (hd 3);go_simp;exact hK _ _ (hI.y mm4 rfl)
     ·refine zF.liftA kR dE ?_
      intro L T wS hL hd hcl hI K hK;try refine zA rfl ?_
      obtain⟨_,zt4,rfl⟩:=hI.v mm4 (hd 4);go_simp;exact hK _ _ (hI.y mm5 rfl)
     ·refine zF.liftA kR dE ?_
      intro L T wS hL hd hcl hI K hK;try refine zA rfl ?_
      obtain⟨_,zt5,rfl⟩:=hI.v mm5 (hd 5);have cc0:=hI.cell (sI) oM e1;have cc1:=hI.cell (sI) oM e2;go_simp;exact hK _ _ (hI.y mm6 rfl)
     ·refine zF.liftA kR dE ?_
      intro L T wS hL hd hcl hI K hK;try refine zA rfl ?_
      obtain⟨_,zt2,rfl⟩:=hI.v mm2 (hd 2);obtain⟨_,zt6,rfl⟩:=hI.v mm6 (hd 6);go_simp;refine(zHn _ _ V q _ (V12.out.ext hI.onl.lext).weak (HQ.out.ext hI.onl.lext).weak HSV.out HSM.out.1 HQ0.out).mono ?_;rintro e wa ⟨v,rfl,hv,hba⟩;exact hK _ _ ((hI.world hba).y mm7 hv)
     ·refine zF.liftA kR dE ?_
      intro L T wS hL hd hcl hI K hK;try refine zA rfl ?_
      obtain⟨v7,zt7,h7⟩:=hI.v mm7 (hd 7);go_simp;exact hK _ _ (hI.y mm8 h7)
     ·refine zF.liftA kR dE ?_
      intro L T wS hL hd hcl hI K hK;try refine zA rfl ?_
      obtain⟨v8,zt8,h8⟩:=hI.v mm8 (hd 8);obtain⟨qq,rr,rfl,hq,hr⟩:=h8;go_simp;exact hK _ _ (hI.y mm9 hq)
     ·intro L T wS hL hd hcl hI K hK
      try refine zA rfl ?_
      obtain⟨w0,hJ,-,-⟩:=id hI;obtain⟨z11,zt11,hz11⟩:=hJ.val _ mm8 (hd 8);obtain⟨qq,rr,rfl,hq,hr⟩:DMV V q w0 z11:=hz11;go_simp;exact hK _ _ (hI.pure ⟨10,64,_⟩ zAB rfl (fun _=>trivial) dE (fun _=>zEF dE dE))
     ·intro L T wS hL hd hcl hI K hK
      try refine zA rfl ?_
      obtain⟨w0,hJ,-,-⟩:=id hI;obtain⟨z11,zt11,hz11⟩:=hJ.val _ mm8 (hd 8);obtain⟨qq,rr,rfl,hq,hr⟩:DMV V q w0 z11:=hz11;go_simp;exact hK _ _ (hI.pure ⟨11,65,_⟩ zAG rfl (fun _=>rfl) dE (fun _=>zEF dE dE))
     ·refine zF.liftA kR dE ?_
      intro L T wS hL hd hcl hI K hK;try refine zA rfl ?_
      obtain⟨_,zt0,rfl⟩:=hI.v mm0 (hd 0);obtain⟨_,zt1,rfl⟩:=hI.v mm1 (hd 1);go_simp;exact hK _ _ (hI.y zAs rfl)
     ·intro L T wS hL hd hcl hI K hK
      try refine zA rfl ?_
      replace hI:=hI.here hL;obtain⟨_,zt15,rfl⟩:=hI.v zAs (hd 12);obtain⟨z12,zt12,hz12⟩:=hI.v mm9 (hd 9);obtain⟨vneg,vao,vlen,vcap,vls,rfl,hv'⟩:=id hz12;obtain⟨_,_,_,_,y1,y2,y3,y4,-⟩:=(hrX.only hI.onl sI).cell (zP hlt);go_simp;exact hK _ _ (RAS.store hI hL (by repeat' (first|exact xgn _|refine xgm.2 ⟨by dsimp only;decide,?_⟩)) dE (zGI zt15 zt12).symm)
    intro T w8f hJ;obtain⟨w8,hI,-,hstw8⟩:=hJ;replace hstw8:=hstw8 kR;obtain⟨vz0,q0,rfl⟩:=hI.v mm0 rfl;obtain⟨vz1,q1,rfl⟩:=hI.v mm1 rfl;obtain⟨vz2,q2,rfl⟩:=hI.v mm2 rfl;obtain⟨vz3,q3,rfl⟩:=hI.v mm3 rfl;obtain⟨vz4,q4,rfl⟩:=hI.v mm4 rfl;obtain⟨vz5,q5,rfl⟩:=hI.v mm5 rfl;obtain⟨vz6,q6,rfl⟩:=hI.v mm6 rfl;obtain⟨vz7,q7,hz7⟩:=hI.v mm7 rfl;obtain⟨vz8,q8,hz8⟩:=hI.v mm8 rfl;obtain⟨vz9,q9,hz9⟩:=hI.v mm9 rfl;replace hz9:zH w8 vz9 (V/q):=hz9;obtain⟨vz10,q10,hz10⟩:=hI.v zAB rfl;obtain⟨vz11,q11,rfl⟩:=hI.v zAG rfl;obtain⟨vz12,q12,rfl⟩:=hI.v zAs rfl;have hT:=zAJ [(55,.slice (some ⟨w.heap.size,0,none⟩) m m),(56,.int .i64 j),(57,.agg #[.bool t1,.slice ta tl tc]),(58,.pointer (some ⟨b,0,none⟩)),(59,.pointer (some ⟨b,0,none⟩)),(60,.pointer (some ⟨b,1,none⟩)),(61,.agg #[.bool ln,.slice la ll lc]),(62,vz7),(54,vz8),(63,vz9),(64,vz10),(65,.int .i64 0),(66,.pointer (some ⟨w.heap.size,j*2,none⟩))]
     (fun j hj=>hI.keep j (by simp only[xgm]at hj ⊢;simp[hj]))
     (by simp only[xgm];simp[q0,q1,q2,q3,q4,q5,q6,q7,q8,q9,q10,q11,q12]) hI.size
    have how8:=hI.onl;clear hI;simp only[List.foldl_cons,List.foldl_nil,xgh,xgi,xgj,ptr]at hT;subst hT;clear q0 q1 q2 q3 q4 q5 q6 q7 q8 q9 q10 q11 q12;have hbw8:=zEA how8;obtain⟨qn,qa,ql,qc,qx,rfl,hqx⟩:=id hz9;have hw9:=hstw8.trans (zGI rfl rfl);have hq8:=hrX.below hbw8;have hset:=hq8.set (k:=j) (by rw[zD];exact hlt) hz9;rw[<-hw9,<-HFV.out,zDI]at hset;have hb9:Below w.heap.size w w8f:=by rw[hw9];exact zO (zO (nx hBX hbw8) (xgf _) _ _) (xgf _) _ _
    have hr9:=hset.1;clear hset hw9 hqx hstw8 hz9 hz7 hz8 hz10 hl3 hl4 how8 e1 e2 f1 f2 f3 f4;go_wp2;go_roundw
    case rel=>exact⟨j+1,by omega,by simp,hb9,hr9⟩
    case measure=>simp[intOf];omega
   obtain⟨kx,hkx⟩:∃k,qJ xcv 0=k:=⟨_,rfl⟩;obtain⟨kz,hkz⟩:∃k,qJ zj 0=k:=⟨_,rfl⟩;have HSX:qE (∀(v:Value) (w:World),zH w v xcv->Calls Tryz.prog 160 #[v] w fun e w'=>e= .returned (.int .i64 kx)/\Below w.heap.size w w'):=⟨fun v w hv=>hkx ▸ qV v xcv w hv.weak⟩;have HSZ:qE (∀(v:Value) (w:World),zH w v zj->Calls Tryz.prog 160 #[v] w fun e w'=>e= .returned (.int .i64 kz)/\Below w.heap.size w w'):=⟨fun v w hv=>hkz ▸ qV v zj w hv.weak⟩;have HKX:qE (kx=0↔xcv=0):=⟨by rw[<-hkx];exact zCx⟩;have HKZ:qE (kz=0↔zj=0):=⟨by rw[<-hkz];exact zCx⟩;have HBODY:=xgv @body;clear hkx hkz body;go_wp2_with fail
   refine(HSX.out _ w5 V2.out).mono ?_;rintro e w6 ⟨rfl,hb6⟩;by_cases hx0:xcv=0
   ·have hk:=HKX.out.2 hx0
    subst hk;have T12':jU w6 ca6 V:=⟨_,_,_,_,T12.below hb6,by rw[<-HVE.out,hx0,Int.zero_mul,Int.sub_zero];exact V12.out.ext (lx hb6)⟩;go_wp2;exact HBODY.out w6 (qU.of _ hb6) T12'
   ·have hk:kx≠0:=fun h=>hx0 (HKX.out.1 h)
    have hk':(kx !=0)=true:=by simpa using hk
    have p5:=zI p5 hb6;have p6:=zI p6 hb6;clear hx0;go_wp2_with fail
    refine(HSZ.out _ w6 (V3.out.ext (lx hb6))).mono ?_;rintro e w7 ⟨rfl,hb7⟩;have hb67:=nx hb6 hb7;by_cases hz0:zj=0
    ·have hkz:=HKZ.out.2 hz0
     subst hkz;have T12':jU w7 ca6 V:=⟨_,_,_,_,T12.below hb67,by rw[<-HVE.out,hz0,Int.mul_zero,Int.sub_zero];exact V12.out.ext (lx hb67)⟩;go_wp2;exact HBODY.out w7 (qU.of _ hb67) T12'
    ·have hkz:kz≠0:=fun h=>hz0 (HKZ.out.1 h)
     have hkz':(kz !=0)=true:=by simpa using hkz
     have T12:=T12.below hb67;have V12:=xgv (V12.out.ext (lx hb67));have V2:=xgv (V2.out.ext (lx hb67));have V3:=xgv (V3.out.ext (lx hb67));have p3:=zI p3 hb67;have p4:=zI p4 hb67;have p5:=zI p5 hb7;have p6:=zI p6 hb7;clear hz0;obtain⟨f1,f2,f3,f4⟩:=T12.two;go_wp2;go_upto_region 7 with(fail)
     refine zC 11 rfl (RV w7 _ [E 0 43 (.agg #[.bool t1,.slice ta tl tc]),VSl 1 44 xb m xc,VN 2 45 c,VP 3 46 xb (c*2),E 4 47 (.agg #[.bool s2,.slice a2 l2 k2]),VSl 5 48 zb m zc,VN 6 49 j,VP 7 50 zb (j*2),E 8 51 (.agg #[.bool s3,.slice a3 l3 k3]),EI 9 52 (xcv*zj),EI 10 53 (zcv*xj-xcv*zj)]) kR RV.start (RV.fin kR ?fin3) ?steps3
     case steps3=>
      (repeat' constructor)<;>(intro L T wS hL hd hcl hI K hK;try refine zA rfl ?_)
      ·have zt:=hI.k 12 rfl kR
       have cc0:=hI.cell f1;have cc1:=hI.cell f2;exact xgu
      ·exact xgs (hI.k 1 rfl kR)
      ·exact xgs (hI.k 3 rfl kR)
      ·exact xgt (hI.e mm1 (hd 1)) (hI.e mm2 (hd 2))
      ·have zt3:=hI.e mm3 (hd 3)
       have cc0:=hI.cell p3;have cc1:=hI.cell p4;exact xgu
      ·exact xgs (hI.k 2 rfl kR)
      ·exact xgs (hI.k 10 rfl kR)
      ·exact xgt (hI.e mm5 (hd 5)) (hI.e mm6 (hd 6))
      ·have zt7:=hI.e mm7 (hd 7)
       have cc0:=hI.cell p5;have cc1:=hI.cell p6;exact xgu
      ·have zt4:=hI.e mm4 (hd 4)
       have zt8:=hI.e mm8 (hd 8);go_simp;refine(jO _ _ xcv zj _ (V2.out.ext (lx hI.bel)).weak (V3.out.ext (lx hI.bel)).weak HSC.out.1 HS.out.2.1).mono ?_;exact xgo
      ·have zt0:=hI.e mm0 (hd 0)
       obtain⟨v9,zt9,h9⟩:=hI.vi mm9 (hd 9);go_simp;refine(zIS _ _ (zcv*xj) (xcv*zj) _ (V12.out.ext (lx hI.bel)).weak h9.weak HS.out.2.2.1 HS.out.2.2.2.1).mono ?_;exact xgo
     intro w8 hbw8 T hT;simp only[Fin,E,EI,VP,VSl,VN,xgg,xgh,xgi,xgj]at hT;obtain⟨vb9,hb9,vb10,hb10,rfl⟩:=hT;simp only[xgl,xgk];obtain⟨u1,ua,ul,uc,rfl⟩:=(show zH _ _ _ from hb10).parts;have T12:=T12.below hbw8;have W1:=xgv (show zH _ _ _ from hb10);rw[HVE.out]at W1;have hb68:=nx hb67 hbw8;clear f1 f2 f3 f4 p3 p4 p5 p6 hb9 hb10;obtain⟨f1,f2,f3,f4⟩:=T12.two;go_wp2;refine HBODY.out _ ((qU.of [ca6] hb68).trans (zEB (T12.lext2 dE _ _))) (jU.put T12 W1.out)
  ·obtain rfl:j=m:=by omega
   rw[zDn]at hr;go_wp2;go_ret;exact⟨rfl,hr,hB⟩
def zCT(w:World)(b n m:Nat)(E:Nat->Nat->Int):Prop:=∃cs:Array Value,Blk w b tR cs/\n<=cs.size/\∀i,i<n->∃o c,cs[i]?=some (.slice o m c)/\qN w (.slice o m c) (zM m (E i))
theorem zCT.lt{w:World}{b n m:Nat}{E:Nat->Nat->Int}(h:zCT w b n m E):b<w.heap.size:=by
 obtain⟨cs,h1,-⟩:=h;exact h1.lt
theorem zCT.below{w w':World}{b n m:Nat}{E:Nat->Nat->Int}(h:zCT w b n m E)(hb:Below w.heap.size w w'):zCT w' b n m E:=by
 obtain⟨cs,h1,h2,h3⟩:=h;refine⟨cs,h1.below hb,h2,fun i hi=>?_⟩;obtain⟨o,c,e1,e2⟩:=h3 i hi;exact⟨o,c,e1,e2.below hb⟩
theorem qN.gone{w w':World}{v:Value}{zs:List Int}{b:Nat}{T:TypeId}{cs:Array Value}(h:qN w v zs)(hb:Blk w b T cs)(hT:¬ T=tI)(ho:∀k,k<w.heap.size->k≠b->w'.heap[k]?=w.heap[k]?)(hx:yI w w'):qN w' v zs:=by
 obtain⟨ao,n,cap,h1,h2,h3,h4,h5⟩:=h;refine⟨ao,n,cap,h1,h2,h3,h4,fun hn=>?_⟩;obtain⟨g,e1,e2⟩:=h5 hn;refine⟨g,e1,e2.old (ho g e2.lt fun e=>?_) hx⟩;subst e;obtain⟨cs',e3,-⟩:=e2;unfold Blk at hb;rw[e3]at hb;injection hb with hb
 injection hb with _ ht
 exact hT ht.symm
theorem zCT.put{w:World}{b n m k:Nat}{E:Nat->Nat->Int}{x:Nat->Int}{o:Option Addr}{c:Nat}(h:zCT w b n m E)(hk:k<n)(hv:qN w (.slice o m c) (zM m x)):
  zCT (w.setCell ⟨b,k,none⟩ (.slice o m c)) b n m (fun i=>if i=k then x else E i)/\yI w (w.setCell ⟨b,k,none⟩ (.slice o m c))/\∀g,g≠b->(w.setCell ⟨b,k,none⟩ (.slice o m c)).heap[g]?=w.heap[g]?:=by
 obtain⟨cs,h1,h2,h3⟩:=h;have hx:=h1.lext (by decide:tR≠tU) k (.slice o m c);have ho:∀g,g≠b->(w.setCell ⟨b,k,none⟩ (.slice o m c)).heap[g]?=w.heap[g]?:=fun g hg=>zU w b k g _ hg
 refine⟨⟨cs.setIfInBounds k (.slice o m c),h1.set_ k _,by simpa using h2,fun i hi=>?_⟩,hx,ho⟩;by_cases e:i=k
 ·subst e
  refine⟨o,c,Array.getElem?_setIfInBounds_self_of_lt oM,?_⟩;show qN _ _ (zM m (if i=i then x else E i));rw[if_pos rfl];exact hv.gone h1 dE (fun g _ hg=>ho g hg) hx
 ·obtain⟨o',c',e1,e2⟩:=h3 i hi
  refine⟨o',c',by rw[xgc (Ne.symm e)];exact e1,?_⟩;show qN _ _ (zM m (if i=k then x else E i));rw[if_neg e];exact e2.gone h1 dE (fun g _ hg=>ho g hg) hx
theorem zCT.row{w:World}{b n m i:Nat}{E:Nat->Nat->Int}(h:zCT w b n m E)(hi:i<n):∃o c,w.cell? ⟨b,i,none⟩=some (.slice o m c)/\w.frozen? ⟨b,i,none⟩=false/\qN w (.slice o m c) (zM m (E i)):=by
 obtain⟨cs,h1,h2,h3⟩:=h;obtain⟨o,c,e1,e2⟩:=h3 i hi;exact⟨o,c,(h1.cell i).trans e1,h1.frozen i,e2⟩
theorem zCT.congr{w:World}{b n m:Nat}{E F:Nat->Nat->Int}(h:zCT w b n m E)(e:∀i,i<n->∀j,j<m->E i j=F i j):zCT w b n m F:=by
 obtain⟨cs,h1,h2,h3⟩:=h;refine⟨cs,h1,h2,fun i hi=>?_⟩;obtain⟨o,c,e1,e2⟩:=h3 i hi;exact⟨o,c,e1,by rw[zQ fun j hj=>(e i hi j hj).symm];exact e2⟩
theorem zIc{w:World}{b k:Nat}{T:TypeId}{cs:Array Value}(h:Blk w b T cs)(hk:k<cs.size):∃u,w.cell? ⟨b,k,none⟩=some u:=⟨_,(h.cell k).trans (Array.getElem?_eq_getElem hk)⟩
theorem zN9{E:Nat->Nat->Int}{k:Nat}:bx E k k=E:=by
 funext a
 unfold bx;by_cases e:a=k
 ·rw[if_pos e,e]
 ·rw[if_neg e,if_neg e]
theorem zKL(be bh n m i k cap:Nat)(E:Nat->Nat->Int)(ln od:Bool)(la:Option Addr)(ll lc:Nat)(pv:Value)(w:World)(hb:Blk w be tBe #[.slice (some ⟨bh,0,none⟩) n cap,.bool ln,.slice la ll lc,.bool od,pv])(hr:zCT w bh n m E)(hi:i<n)(hk:k<n)(hne:be≠bh):
  Calls Tryz.prog 269 #[.pointer (some ⟨be,0,none⟩),.int .i64 i,.int .i64 k] w fun e w'=>(∃u,e= .returned u)/\qU [be,bh] w w'/\zCT w' bh n m (bx E i k)/\Blk w' be tBe #[.slice (some ⟨bh,0,none⟩) n cap,.bool ln,.slice la ll lc,.bool (od^^decide (i≠k)),pv]:=by
 by_cases hik:i=k
 ·subst hik
  have hdk:(od^^decide (i≠i))=od:=by simp
  rw[hdk,zN9];go_enter Tryz.func269,Tryz.ntmps269;go_wp2;exact bodyPost_end (results_none rfl _ _ _) rfl ⟨⟨_,rfl⟩,qU.refl _ _,hr,hb⟩
 ·have hdk:(od^^decide (i≠k))= !od:=by simp[hik]
  rw[hdk];obtain⟨oi,ci,p1,p2,hvi⟩:=hr.row hi;obtain⟨ok,ck,p3,p4,hvk⟩:=hr.row hk;obtain⟨cs,hbh,hcs,-⟩:=id hr;have HR:=xgv hr;have VI:=xgv hvi;have VK:=xgv hvk;have HB:=xgv hb;have lb:=hb.lt;have lh:=hbh.lt;have c1:=hb.cell 0;have c2:=hb.cell 3;have c3:=hb.frozen 3;have hcast:((i:Int)=(k:Int))=False:=by simp;omega
  have hcast':((i:Int) !=(k:Int))=true:=by simp;omega
  have HCS:=xgv hcs;have HBH:=xgv hbh;clear hr hvi hvk hb hdk hcs hbh;go_enter Tryz.func269,Tryz.ntmps269;go_upto_region 1 with(fail)
  refine zE rfl (RIS w (w.heap.size) _ 35
    [⟨0,9,fun _ v=>v= .pointer (some ⟨be,0,none⟩)⟩,⟨1,10,fun _ v=>v= .pointer (some ⟨be,0,none⟩)⟩,⟨2,11,fun _ v=>v= .pointer (some ⟨be,0,none⟩)⟩,⟨3,12,fun _ v=>v= .slice (some ⟨bh,0,none⟩) n cap⟩,⟨4,13,fun _ v=>v= .int .i64 i⟩,⟨5,14,fun _ v=>v= .pointer (some ⟨be,0,none⟩)⟩,⟨6,15,fun _ v=>v= .pointer (some ⟨be,0,none⟩)⟩,⟨7,16,fun _ v=>v= .pointer (some ⟨be,0,none⟩)⟩,⟨8,17,fun _ v=>v= .slice (some ⟨bh,0,none⟩) n cap⟩,⟨9,18,fun _ v=>v= .int .i64 k⟩,⟨10,19,fun _ v=>v= .pointer (some ⟨be,0,none⟩)⟩,⟨11,20,fun _ v=>v= .pointer (some ⟨be,0,none⟩)⟩,⟨12,21,fun _ v=>v= .pointer (some ⟨be,0,none⟩)⟩,⟨13,22,fun _ v=>v= .slice (some ⟨bh,0,none⟩) n cap⟩,⟨14,23,fun _ v=>v= .int .i64 k⟩,⟨15,24,fun _ v=>v= .pointer (some ⟨bh,k,none⟩)⟩,⟨16,25,fun _ v=>v= .slice ok m ck⟩,⟨17,26,fun _ v=>v= .pointer (some ⟨be,0,none⟩)⟩,⟨18,27,fun _ v=>v= .pointer (some ⟨be,0,none⟩)⟩,⟨19,28,fun _ v=>v= .pointer (some ⟨be,0,none⟩)⟩,⟨20,29,fun _ v=>v= .slice (some ⟨bh,0,none⟩) n cap⟩,⟨21,30,fun _ v=>v= .int .i64 i⟩,⟨22,31,fun _ v=>v= .pointer (some ⟨bh,i,none⟩)⟩,⟨23,32,fun _ v=>v= .slice oi m ci⟩,⟨24,33,fun _ v=>v= .pointer (some ⟨bh,i,none⟩)⟩,⟨26,34,fun _ v=>v= .pointer (some ⟨bh,k,none⟩)⟩]
    [] [] 25 27 (fun w=>w.setCell ⟨bh,i,none⟩ (.slice ok m ck)) (fun _ w=>w.setCell ⟨bh,k,none⟩ (.slice oi m ci))) kR (RIS.start RI.start) ?fin1 ?steps1
  case steps1=>
   refine⟨?_,?_,?_,?_,?_,?_,?_,?_,?_,?_,?_,?_,?_,?_,?_,?_,?_,?_,?_,?_,?_,?_,?_,?_,?_,?_,?_,?_,trivial⟩
   ·refine zF.lift kR kR dE ?_
    intro L T wS hL hd hcl hI K hK;try refine zA rfl ?_
    have zt:T[0]?=some (.pointer (some ⟨be,0,none⟩)):=hI.keep 0 sI sI;go_simp;exact hK _ _ (hI.y mm0 rfl)
   ·refine zF.lift kR kR dE ?_
    intro L T wS hL hd hcl hI K hK;try refine zA rfl ?_
    obtain⟨v0,zt0,rfl⟩:=hI.v mm0 (hd 0);go_simp;exact hK _ _ (hI.y mm1 rfl)
   ·refine zF.lift kR kR dE ?_
    intro L T wS hL hd hcl hI K hK;try refine zA rfl ?_
    obtain⟨v1,zt1,rfl⟩:=hI.v mm1 (hd 1);go_simp;exact hK _ _ (hI.y mm2 rfl)
   ·refine zF.lift kR kR dE ?_
    intro L T wS hL hd hcl hI K hK;try refine zA rfl ?_
    obtain⟨v2,zt2,rfl⟩:=hI.v mm2 (hd 2);have cc0:=hI.cell c1 oM aU;go_simp;exact hK _ _ (hI.y mm3 rfl)
   ·refine zF.lift kR kR dE ?_
    intro L T wS hL hd hcl hI K hK;try refine zA rfl ?_
    have zt:T[1]?=some (.int .i64 i):=hI.keep 1 sI sI;go_simp;exact hK _ _ (hI.y mm4 rfl)
   ·refine zF.lift kR kR dE ?_
    intro L T wS hL hd hcl hI K hK;try refine zA rfl ?_
    have zt:T[0]?=some (.pointer (some ⟨be,0,none⟩)):=hI.keep 0 sI sI;go_simp;exact hK _ _ (hI.y mm5 rfl)
   ·refine zF.lift kR kR dE ?_
    intro L T wS hL hd hcl hI K hK;try refine zA rfl ?_
    obtain⟨v5,zt5,rfl⟩:=hI.v mm5 (hd 5);go_simp;exact hK _ _ (hI.y mm6 rfl)
   ·refine zF.lift kR kR dE ?_
    intro L T wS hL hd hcl hI K hK;try refine zA rfl ?_
    obtain⟨v6,zt6,rfl⟩:=hI.v mm6 (hd 6);go_simp;exact hK _ _ (hI.y mm7 rfl)
   ·refine zF.lift kR kR dE ?_
    intro L T wS hL hd hcl hI K hK;try refine zA rfl ?_
    obtain⟨v7,zt7,rfl⟩:=hI.v mm7 (hd 7);have cc0:=hI.cell c1 oM aU;go_simp;exact hK _ _ (hI.y mm8 rfl)
   ·intro L T wS hL hd hcl hI K hK
    try refine zA rfl ?_
    have zt:T[2]?=some (.int .i64 k):=hI.keep sI sI;go_simp;exact hK _ _ (hI.value hcl kR hL dE ⟨9,18,_⟩ mm9 rfl (fun _=>rfl))
   ·refine zF.lift kR kR dE ?_
    intro L T wS hL hd hcl hI K hK;try refine zA rfl ?_
    have zt:T[0]?=some (.pointer (some ⟨be,0,none⟩)):=hI.keep 0 sI sI;go_simp;exact hK _ _ (hI.y zAB rfl)
   ·refine zF.lift kR kR dE ?_
    intro L T wS hL hd hcl hI K hK;try refine zA rfl ?_
    obtain⟨v10,zt10,rfl⟩:=hI.v zAB (hd 10);go_simp;exact hK _ _ (hI.y zAG rfl)
   ·refine zF.lift kR kR dE ?_
    intro L T wS hL hd hcl hI K hK;try refine zA rfl ?_
    obtain⟨v11,zt11,rfl⟩:=hI.v zAG (hd 11);go_simp;exact hK _ _ (hI.y zAs rfl)
   ·refine zF.lift kR kR dE ?_
    intro L T wS hL hd hcl hI K hK;try refine zA rfl ?_
    obtain⟨v12,zt12,rfl⟩:=hI.v zAs (hd 12);have cc0:=hI.cell c1 oM aU;go_simp;exact hK _ _ (hI.y zCS rfl)
   ·refine zF.lift kR kR dE ?_
    intro L T wS hL hd hcl hI K hK;try refine zA rfl ?_
    have zt:T[2]?=some (.int .i64 k):=hI.keep 2 sI sI;go_simp;exact hK _ _ (hI.y zBq rfl)
   ·refine zF.lift kR kR dE ?_
    intro L T wS hL hd hcl hI K hK;try refine zA rfl ?_
    obtain⟨v13,zt13,rfl⟩:=hI.v zCS (hd 13);obtain⟨v14,zt14,rfl⟩:=hI.v zBq (hd 14);go_simp;exact hK _ _ (hI.y zCV rfl)
   ·refine zF.lift kR kR dE ?_
    intro L T wS hL hd hcl hI K hK;try refine zA rfl ?_
    obtain⟨v15,zt15,rfl⟩:=hI.v zCV (hd 15);have cc0:=hI.cell p3 oM aU;go_simp;exact hK _ _ (hI.y zDy rfl)
   ·refine zF.lift kR kR dE ?_
    intro L T wS hL hd hcl hI K hK;try refine zA rfl ?_
    have zt:T[0]?=some (.pointer (some ⟨be,0,none⟩)):=hI.keep 0 sI sI;go_simp;exact hK _ _ (hI.y zEy rfl)
   ·refine zF.lift kR kR dE ?_
    intro L T wS hL hd hcl hI K hK;try refine zA rfl ?_
    obtain⟨v17,zt17,rfl⟩:=hI.v zEy (hd 17);go_simp;exact hK _ _ (hI.y zCl rfl)
   ·refine zF.lift kR kR dE ?_
    intro L T wS hL hd hcl hI K hK;try refine zA rfl ?_
    obtain⟨v18,zt18,rfl⟩:=hI.v zCl (hd 18);go_simp;exact hK _ _ (hI.y zE5 rfl)
   ·refine zF.lift kR kR dE ?_
    intro L T wS hL hd hcl hI K hK;try refine zA rfl ?_
    obtain⟨v19,zt19,rfl⟩:=hI.v zE5 (hd 19);have cc0:=hI.cell c1 oM aU;go_simp;exact hK _ _ (hI.y zEz rfl)
   ·refine zF.lift kR kR dE ?_
    intro L T wS hL hd hcl hI K hK;try refine zA rfl ?_
    have zt:T[1]?=some (.int .i64 i):=hI.keep 1 sI sI;go_simp;exact hK _ _ (hI.y zE0 rfl)
   ·refine zF.lift kR kR dE ?_
    intro L T wS hL hd hcl hI K hK;try refine zA rfl ?_
    obtain⟨v20,zt20,rfl⟩:=hI.v zEz (hd 20);obtain⟨v21,zt21,rfl⟩:=hI.v zE0 (hd 21);go_simp;exact hK _ _ (hI.y zFa rfl)
   ·refine zF.lift kR kR dE ?_
    intro L T wS hL hd hcl hI K hK;try refine zA rfl ?_
    obtain⟨v22,zt22,rfl⟩:=hI.v zFa (hd 22);have cc0:=hI.cell p1 oM aU;go_simp;exact hK _ _ (hI.y zFb rfl)
   ·refine zF.lift kR kR dE ?_
    intro L T wS hL hd hcl hI K hK;try refine zA rfl ?_
    obtain⟨v3,zt3,rfl⟩:=hI.v mm3 (hd 3);obtain⟨v4,zt4,rfl⟩:=hI.v mm4 (hd 4);go_simp;exact hK _ _ (hI.y zHa rfl)
   ·intro L T wS hL hd hcl hI K hK
    try refine zA rfl ?_
    obtain⟨hI0,hIS⟩:=hI.first hcl kR hL dE sI sI sI
    obtain⟨_,zt24,rfl⟩:=hI0.v zHa (hd 24);obtain⟨_,zt16,rfl⟩:=hI0.v zDy (hd 16);have hh:=hI0.old bh oM sI;have cc1:=(zKR hh).trans p1;have cc3:=(zHp hh).trans p2;clear hh;go_simp;exact hK _ _ hIS
   ·intro L T wS hL hd hcl hI K hK
    try refine zA rfl ?_
    obtain⟨v8,zt8,hz8⟩:=hI.val mm8 (hd 8) (fun _ _ _ h=>h);replace hz8:v8= .slice (some ⟨bh,0,none⟩) n cap:=hz8 wS;subst hz8;obtain⟨v9,zt9,hz9⟩:=hI.val mm9 (hd 9) (fun _ _ _ h=>h);replace hz9:v9= .int .i64 k:=hz9 wS;subst hz9;go_simp;exact hK _ _ (hI.value hcl kR hL dE ⟨26,34,_⟩ zE1 rfl (fun _=>rfl))
   ·intro L T wS hL hd hcl hI K hK
    try refine zA rfl ?_
    obtain⟨w0,rfl,hI0,hIS⟩:=hI.second (hd 25) hL sI sI sI;obtain⟨_,zt26,rfl⟩:=hI0.v zE1 (hd 26);obtain⟨_,zt23,rfl⟩:=hI0.v zFb (hd 23);have hh:Blk w0 bh tR cs:=(hI0.old bh oM sI).trans HBH.out;have cc3:=(hh.set_ i (.slice ok m ck)).frozen k;obtain⟨u,cc1⟩:=zIc (hh.set_ i (.slice ok m ck)) (k:=k) (by have:=HCS.out;simp;omega);clear hh;go_simp;exact hK _ _ hIS
  intro T wf1 hIS;obtain⟨w1,hI,hwfa⟩:=hIS.fin dE;obtain⟨va0,q0,rfl⟩:=hI.v mm0 rfl;obtain⟨va1,q1,rfl⟩:=hI.v mm1 rfl;obtain⟨va2,q2,rfl⟩:=hI.v mm2 rfl;obtain⟨va3,q3,rfl⟩:=hI.v mm3 rfl;obtain⟨va4,q4,rfl⟩:=hI.v mm4 rfl;obtain⟨va5,q5,rfl⟩:=hI.v mm5 rfl;obtain⟨va6,q6,rfl⟩:=hI.v mm6 rfl;obtain⟨va7,q7,rfl⟩:=hI.v mm7 rfl;obtain⟨va8,q8,rfl⟩:=hI.v mm8 rfl;obtain⟨va9,q9,rfl⟩:=hI.v mm9 rfl;obtain⟨va10,q10,rfl⟩:=hI.v zAB rfl;obtain⟨va11,q11,rfl⟩:=hI.v zAG rfl;obtain⟨va12,q12,rfl⟩:=hI.v zAs rfl;obtain⟨va13,q13,rfl⟩:=hI.v zCS rfl;obtain⟨va14,q14,rfl⟩:=hI.v zBq rfl;obtain⟨va15,q15,rfl⟩:=hI.v zCV rfl;obtain⟨va16,q16,rfl⟩:=hI.v zDy rfl;obtain⟨va17,q17,rfl⟩:=hI.v zEy rfl;obtain⟨va18,q18,rfl⟩:=hI.v zCl rfl;obtain⟨va19,q19,rfl⟩:=hI.v zE5 rfl;obtain⟨va20,q20,rfl⟩:=hI.v zEz rfl;obtain⟨va21,q21,rfl⟩:=hI.v zE0 rfl;obtain⟨va22,q22,rfl⟩:=hI.v zFa rfl;obtain⟨va23,q23,rfl⟩:=hI.v zFb rfl;obtain⟨va24,q24,rfl⟩:=hI.v zHa rfl;obtain⟨va26,q26,rfl⟩:=hI.v zE1 rfl;have hT:=zAJ [(9,.pointer (some ⟨be,0,none⟩)),(10,.pointer (some ⟨be,0,none⟩)),(11,.pointer (some ⟨be,0,none⟩)),(12,.slice (some ⟨bh,0,none⟩) n cap),(13,.int .i64 i),(14,.pointer (some ⟨be,0,none⟩)),(15,.pointer (some ⟨be,0,none⟩)),(16,.pointer (some ⟨be,0,none⟩)),(17,.slice (some ⟨bh,0,none⟩) n cap),(18,.int .i64 k),(19,.pointer (some ⟨be,0,none⟩)),(20,.pointer (some ⟨be,0,none⟩)),(21,.pointer (some ⟨be,0,none⟩)),(22,.slice (some ⟨bh,0,none⟩) n cap),(23,.int .i64 k),(24,.pointer (some ⟨bh,k,none⟩)),(25,.slice ok m ck),(26,.pointer (some ⟨be,0,none⟩)),(27,.pointer (some ⟨be,0,none⟩)),(28,.pointer (some ⟨be,0,none⟩)),(29,.slice (some ⟨bh,0,none⟩) n cap),(30,.int .i64 i),(31,.pointer (some ⟨bh,i,none⟩)),(32,.slice oi m ci),(33,.pointer (some ⟨bh,i,none⟩)),(34,.pointer (some ⟨bh,k,none⟩))]
   (fun j hj=>hI.keep j (by simp only[xgm]at hj ⊢;simp[hj]) (by simp only[xgm]at hj ⊢;simp[hj]))
   (by simp only[xgm];simp[q0,q1,q2,q3,q4,q5,q6,q7,q8,q9,q10,q11,q12,q13,q14,q15,q16,q17,q18,q19,q20,q21,q22,q23,q24,q26]) hI.size
  have hlw1:=hI.lext;have hbw1:=hI.bel (w.heap.size) oM aU;have holdw1:=hI.old;clear hI;simp only[List.foldl_cons,List.foldl_nil,xgh,xgi,xgj,ptr]at hT;subst hT;clear q0 q1 q2 q3 q4 q5 q6 q7 q8 q9 q10 q11 q12 q13 q14 q15 q16 q17 q18 q19 q20 q21 q22 q23 q24 q26;have hwf:wf1=(w1.setCell ⟨bh,i,none⟩ (.slice ok m ck)).setCell ⟨bh,k,none⟩ (.slice oi m ci):=hwfa;subst hwf;clear hwfa c1 c2 c3 p1 p2 p3 p4;have HR1:=HR.out.below hbw1;have hbh1:=HBH.out.below hbw1;obtain⟨g1,g2,g3⟩:=HR1.put hi (VK.out.below hbw1);obtain⟨g4,g5,g6⟩:=g1.put hk ((VI.out.below hbw1).gone hbh1 dE (fun g _ hg=>g3 g hg) g2);have hold:∀g,g<w.heap.size->g≠bh->((w1.setCell ⟨bh,i,none⟩ (.slice ok m ck)).setCell ⟨bh,k,none⟩ (.slice oi m ci)).heap[g]?=w.heap[g]?:=fun g hg hn=>((g6 g hn).trans (g3 g hn)).trans (hbw1.block g hg)
  have hbe:Blk ((w1.setCell ⟨bh,i,none⟩ (.slice ok m ck)).setCell ⟨bh,k,none⟩ (.slice oi m ci)) be tBe #[.slice (some ⟨bh,0,none⟩) n cap,.bool ln,.slice la ll lc,.bool od,pv]:=(hold be lb hne).trans HB.out;have hO:qU [be,bh] w ((w1.setCell ⟨bh,i,none⟩ (.slice ok m ck)).setCell ⟨bh,k,none⟩ (.slice oi m ci)):=
   ⟨zO (zO (hbw1.mono (Nat.zero_le _)) (Nat.zero_le _) _ _) (Nat.zero_le _) _ _,((lx hbw1).trans g2).trans g5,fun g hg hn=>hold g hg fun e=>hn (by rw[e];simp)⟩
  have hS:=g4.congr (F:=bx E i k) fun a ha j hj=>by
   show(if a=k then E i else if a=i then E k else E a) j=(if a=i then E k else if a=k then E i else E a) j;by_cases e1:a=k
   ·rw[if_pos e1,if_neg oM,if_pos e1]
   ·rw[if_neg e1]
    by_cases e2:a=i
    ·rw[if_pos e2,if_pos e2]
    ·rw[if_neg e2,if_neg e2,if_neg e1]
  generalize (w1.setCell ⟨bh,i,none⟩ (.slice ok m ck)).setCell ⟨bh,k,none⟩ (.slice oi m ci)=W2 at hO hS hbe ⊢
  clear g1 g2 g3 g4 g5 g6 hold hbh1 HR1;have c2:=hbe.cell 3;have c3:=hbe.frozen 3;go_wp2;have hx:=hbe.lext (by decide:tBe≠tU) 3 (.bool (!od));obtain⟨cs2,f1,f2,f3⟩:=hS;refine bodyPost_end (results_none rfl _ _ _) rfl ⟨⟨_,rfl⟩,hO.trans ⟨zO (Below.refl _ _) (Nat.zero_le _) _ _,hx,fun g hg hn=>zU _ be 3 g _ fun e=>hn (by rw[e];simp)⟩,⟨cs2,(zU _ be 3 bh _ (Ne.symm hne)).trans f1,f2,fun a ha=>?_⟩,by simpa using hbe.set_ 3 (.bool (!od))⟩;obtain⟨o,c,e1,e2⟩:=f3 a ha;exact⟨o,c,e1,e2.gone hbe dE (fun g _ hg=>zU _ be 3 g _ hg) hx⟩
theorem qN.keepO{w w':World}{v:Value}{zs:List Int}{b:Nat}{T:TypeId}{cs:Array Value}(h:qN w v zs)(ho:qU [b] w w')(hb:Blk w b T cs)(hT:¬ T=tI):qN w' v zs:=
 h.gone hb hT (fun k hk hn=>ho.old k hk (by simpa using hn)) ho.lext
def RpV(m:Nat)(x:Nat->Int):World->Value->Prop:=fun w v=>∃b,v= .slice (some ⟨b,0,none⟩) m m/\qC w b (zM m x)
theorem zJX(m:Nat)(x:Nat->Int):qK (RpV m x):=fun _ _ _ hb ⟨b,h1,h2⟩=>⟨b,h1,h2.below hb⟩
theorem zKP{e:Nat}(be bh n m k c cap:Nat)(Ef:Nat->Nat->Int)(q:Int)(ln od:Bool)(la:Option Addr)(ll lc:Nat)(pv:Value)(w:World)(hb:Blk w be tBe #[.slice (some ⟨bh,0,none⟩) n cap,.bool ln,.slice la ll lc,.bool od,pv])(hr:zCT w bh n m Ef)(hq:zH w (.agg #[.bool ln,.slice la ll lc]) q)(hk:k<n)(hc:c<m)(hm:m<=1000000)(hn:n<=1000000)(hne:be≠bh)
  (hq0:q≠0) (he:2*e+1<=1000000) (hqe:q.natAbs<2^e) (hE:∀i,i<n->∀j,j<m->(Ef i j).natAbs<2^e):
  Calls Tryz.prog 270 #[.pointer (some ⟨be,0,none⟩),.int .i64 k,.int .i64 c,.bool true] w fun e w'=>(∃u,e= .returned u)/\qU [be,bh] w w'/\zCT w' bh n m (yP Ef k c q)/\∃s a l t,zH w' (.agg #[.bool s,.slice a l t]) (Ef k c)/\Blk w' be tBe #[.slice (some ⟨bh,0,none⟩) n cap,.bool s,.slice a l t,.bool od,pv]:=by
 obtain⟨po,pc,c2,c3,hvp⟩:=hr.row hk;obtain⟨cs,hbh,-⟩:=id hr;have VQP:=xgv hvp;have HB:=xgv hb;have HQ:=xgv hq;have HE:=xgv (And.intro hq0 (And.intro he (And.intro hqe hE)));have HLT:qE (be<w.heap.size/\bh<w.heap.size):=⟨hb.lt,hbh.lt⟩;have HBH:=xgv hbh;have c1:=hb.cell 0;have hr0:zCT w bh n m (fun a=>if a<0 then yP Ef k c q a else Ef a):=hr.congr fun a _ j _=>by show _=(if a<0 then _ else Ef a) j;rw[if_neg oM]
 have hl1:∀i:Nat,qK (RpV m fun j=>(Ef k c*Ef i j-Ef i c*Ef k j)/q):=fun i=>zJX _ _
 clear hvp hb hq hq0 he hqe hE hbh hr;go_enter Tryz.func270,Tryz.ntmps270;go_wp2;clear c1 c2 c3;go_loopw [23] (fun iv wr=>∃i:Nat,i<=n/\iv= .int .i64 i/\qU [bh] w wr/\zCT wr bh n m (fun a=>if a<i then yP Ef k c q a else Ef a)) (fun iv _=>n-(intOf iv).toNat)
 case atStart=>exact⟨0,by omega,rfl,qU.refl _ _,hr0⟩
 case round=>
  clear hr0;obtain⟨i,hi,rfl,ho,hr⟩:=hrel;by_cases hlt:i<n
  ·have hla:=hl1 i
   by_cases hik:i=k
   ·subst hik
    obtain⟨ro,rc,p1,p2,hvr⟩:=hr.row hlt;have hrr:=hr.congr (F:=fun a=>if a<i+1 then yP Ef i c q a else Ef a) fun a ha j hj=>by
     show(if a<i then yP Ef i c q a else Ef a) j=(if a<i+1 then yP Ef i c q a else Ef a) j;by_cases e2:a<i
     ·rw[if_pos e2,if_pos oM]
     ·rw[if_neg e2]
      by_cases e3:a=i
      ·rw[if_pos oM,e3];unfold yP;rw[if_pos rfl]
      ·rw[if_neg oM]
    clear hvr hr;go_wp2;go_roundw
    case rel=>exact⟨i+1,by omega,by simp,ho,hrr⟩
    case measure=>simp[intOf];omega
   ·rcases Nat.lt_or_gt_of_ne hik with hl|hg
    ·have hl':(i:Int)<k:=by omega
     obtain⟨ro,rc,p1,p2,hvr⟩:=hr.row hlt;have hFi:zM m ((fun a=>if a<i then yP Ef k c q a else Ef a) i)=zM m (Ef i):=by
      show zM m (if i<i then _ else Ef i)=_;rw[if_neg (Nat.lt_irrefl _)]
     rw[hFi]at hvr;have VR:=xgv hvr;have VQP:=xgv (VQP.out.keepO ho HBH.out dE);have hbr:Blk wr be tBe #[.slice (some ⟨bh,0,none⟩) n cap,.bool ln,.slice la ll lc,.bool od,pv]:=(ho.old be HLT.out.1 (by simp;exact hne)).trans HB.out;have HQ:=xgv (HQ.out.ext ho.lext);have HR:=xgv hr;have c1:=hbr.cell 0;have lth:=hr.lt;have HBR:=xgv hbr;have HRP:=xgv (fun(W:World) (h:Below wr.heap.size wr W)=>zD3 (e:=e) be m c ro po rc pc (.slice (some ⟨bh,0,none⟩) n cap) pv ln od la ll lc (Ef i) (Ef k) q W (HBR.out.below h) (HQ.out.ext (lx h)) (VR.out.below h) (VQP.out.below h) hc hm HE.out.1 HE.out.2.1 HE.out.2.2.1 (HE.out.2.2.2 i hlt) (HE.out.2.2.2 k hk));clear hvr hbr hr hFi;go_upto_region 5 with(fail)
     refine zC 10 rfl (RV wr _ [VP 0 39 be 0,VP 1 40 be 0,VP 2 41 be 0,VSl 3 42 bh n cap,VN 4 43 i,VP 5 44 be 0,E 6 45 (.slice ro m rc),E 7 46 (.slice po m pc),VN 8 47 c,⟨9,48,RpV m (fun j=>(Ef k c*Ef i j-Ef i c*Ef k j)/q)⟩]) kR RV.start (RV.fin kR ?fin1) ?steps1
     case steps1=>
      (repeat' constructor)<;>(intro L T wS hL hd hcl hI K hK;try refine zA rfl ?_)
      ·exact xgs (hI.k 0 rfl kR)
      ·exact xgs (hI.e mm0 (hd 0))
      ·exact xgs (hI.e mm1 (hd 1))
      ·have zt2:=hI.e mm2 (hd 2)
       have cc0:=hI.cell c1;exact xgu
      ·exact xgs (hI.k 9 rfl kR)
      ·exact xgs (hI.k 0 rfl kR)
      ·exact xgs (hI.k 10 rfl kR)
      ·exact xgs (hI.k 8 rfl kR)
      ·exact xgs (hI.k 2 rfl kR)
      ·obtain⟨_,zt5,rfl⟩:=hI.v mm5 (hd 5)
       obtain⟨_,zt6,rfl⟩:=hI.v mm6 (hd 6);obtain⟨_,zt7,rfl⟩:=hI.v mm7 (hd 7);obtain⟨_,zt8,rfl⟩:=hI.v mm8 (hd 8);go_simp;refine(HRP.out wS hI.bel).mono ?_;rintro e wa ⟨rfl,hv,hba⟩;exact hK _ _ ((hI.world hba).y mm9 ⟨_,rfl,hv⟩)
     intro wx hbwx T hT;simp only[Fin,E,EI,VP,VSl,VN,xgg,xgh,xgi,xgj]at hT;obtain⟨va9,ha9,rfl⟩:=hT;simp only[xgl,xgk];obtain⟨rb,rfl,hrow⟩:=(show RpV m _ _ _ from ha9);have HRW:=xgv hrow;have HRX:=HR.out.below hbwx;obtain⟨ro2,rc2,p3,p4,-⟩:=HRX.row hlt;have HRX:=xgv HRX;clear hrow ha9 c1 p1 p2 HRP;go_wp2;obtain⟨g1,g2,g3⟩:=HRX.out.put hlt (HRW.out.vec (zD _ _) (xgf _) oM:qN _ (.slice (some ⟨rb,0,none⟩) m m) _);have hon:qU [bh] w (wx.setCell ⟨bh,i,none⟩ (.slice (some ⟨rb,0,none⟩) m m)):=((ho.trans (qU.of [bh] hbwx))).trans ⟨zO (Below.refl _ _) (Nat.zero_le _) _ _,g2,fun g _ hg=>g3 g (by simpa using hg)⟩;have hgr:=g1.congr (F:=fun a=>if a<i+1 then yP Ef k c q a else Ef a) fun a ha j hj=>by
      show(if a=i then fun j=>(Ef k c*Ef i j-Ef i c*Ef k j)/q else if a<i then yP Ef k c q a else Ef a) j=(if a<i+1 then yP Ef k c q a else Ef a) j;by_cases e1:a=i
      ·rw[if_pos e1,if_pos oM,e1]
       unfold yP;rw[if_neg hik]
      ·rw[if_neg e1]
       by_cases e2:a<i
       ·rw[if_pos e2,if_pos oM]
       ·rw[if_neg e2,if_neg oM]
     go_roundw
     case rel=>exact⟨i+1,by omega,by simp,hon,hgr⟩
     case measure=>simp[intOf];omega
    ·have hg':(k:Int)<i:=by omega
     obtain⟨ro,rc,p1,p2,hvr⟩:=hr.row hlt;have hFi:zM m ((fun a=>if a<i then yP Ef k c q a else Ef a) i)=zM m (Ef i):=by
      show zM m (if i<i then _ else Ef i)=_;rw[if_neg (Nat.lt_irrefl _)]
     rw[hFi]at hvr;have VR:=xgv hvr;have VQP:=xgv (VQP.out.keepO ho HBH.out dE);have hbr:Blk wr be tBe #[.slice (some ⟨bh,0,none⟩) n cap,.bool ln,.slice la ll lc,.bool od,pv]:=(ho.old be HLT.out.1 (by simp;exact hne)).trans HB.out;have HQ:=xgv (HQ.out.ext ho.lext);have HR:=xgv hr;have c1:=hbr.cell 0;have lth:=hr.lt;have HBR:=xgv hbr;have HRP:=xgv (fun(W:World) (h:Below wr.heap.size wr W)=>zD3 (e:=e) be m c ro po rc pc (.slice (some ⟨bh,0,none⟩) n cap) pv ln od la ll lc (Ef i) (Ef k) q W (HBR.out.below h) (HQ.out.ext (lx h)) (VR.out.below h) (VQP.out.below h) hc hm HE.out.1 HE.out.2.1 HE.out.2.2.1 (HE.out.2.2.2 i hlt) (HE.out.2.2.2 k hk));clear hvr hbr hr hFi;go_upto_region 5 with(fail)
     refine zC 10 rfl (RV wr _ [VP 0 39 be 0,VP 1 40 be 0,VP 2 41 be 0,VSl 3 42 bh n cap,VN 4 43 i,VP 5 44 be 0,E 6 45 (.slice ro m rc),E 7 46 (.slice po m pc),VN 8 47 c,⟨9,48,RpV m (fun j=>(Ef k c*Ef i j-Ef i c*Ef k j)/q)⟩]) kR RV.start (RV.fin kR ?fin2) ?steps2
     case steps2=>
      (repeat' constructor)<;>(intro L T wS hL hd hcl hI K hK;try refine zA rfl ?_)
      ·exact xgs (hI.k 0 rfl kR)
      ·exact xgs (hI.e mm0 (hd 0))
      ·exact xgs (hI.e mm1 (hd 1))
      ·have zt2:=hI.e mm2 (hd 2)
       have cc0:=hI.cell c1;exact xgu
      ·exact xgs (hI.k 9 rfl kR)
      ·exact xgs (hI.k 0 rfl kR)
      ·exact xgs (hI.k 10 rfl kR)
      ·exact xgs (hI.k 8 rfl kR)
      ·exact xgs (hI.k 2 rfl kR)
      ·obtain⟨_,zt5,rfl⟩:=hI.v mm5 (hd 5)
       obtain⟨_,zt6,rfl⟩:=hI.v mm6 (hd 6);obtain⟨_,zt7,rfl⟩:=hI.v mm7 (hd 7);obtain⟨_,zt8,rfl⟩:=hI.v mm8 (hd 8);go_simp;refine(HRP.out wS hI.bel).mono ?_;rintro e wa ⟨rfl,hv,hba⟩;exact hK _ _ ((hI.world hba).y mm9 ⟨_,rfl,hv⟩)
     intro wx hbwx T hT;simp only[Fin,E,EI,VP,VSl,VN,xgg,xgh,xgi,xgj]at hT;obtain⟨va9,ha9,rfl⟩:=hT;simp only[xgl,xgk];obtain⟨rb,rfl,hrow⟩:=(show RpV m _ _ _ from ha9);have HRW:=xgv hrow;have HRX:=HR.out.below hbwx;obtain⟨ro2,rc2,p3,p4,-⟩:=HRX.row hlt;have HRX:=xgv HRX;clear hrow ha9 c1 p1 p2 HRP;go_wp2;obtain⟨g1,g2,g3⟩:=HRX.out.put hlt (HRW.out.vec (zD _ _) (xgf _) oM:qN _ (.slice (some ⟨rb,0,none⟩) m m) _);have hon:qU [bh] w (wx.setCell ⟨bh,i,none⟩ (.slice (some ⟨rb,0,none⟩) m m)):=((ho.trans (qU.of [bh] hbwx))).trans ⟨zO (Below.refl _ _) (Nat.zero_le _) _ _,g2,fun g _ hg=>g3 g (by simpa using hg)⟩;have hgr:=g1.congr (F:=fun a=>if a<i+1 then yP Ef k c q a else Ef a) fun a ha j hj=>by
      show(if a=i then fun j=>(Ef k c*Ef i j-Ef i c*Ef k j)/q else if a<i then yP Ef k c q a else Ef a) j=(if a<i+1 then yP Ef k c q a else Ef a) j;by_cases e1:a=i
      ·rw[if_pos e1,if_pos oM,e1]
       unfold yP;rw[if_neg hik]
      ·rw[if_neg e1]
       by_cases e2:a<i
       ·rw[if_pos e2,if_pos oM]
       ·rw[if_neg e2,if_neg oM]
     go_roundw
     case rel=>exact⟨i+1,by omega,by simp,hon,hgr⟩
     case measure=>simp[intOf];omega
  ·obtain rfl:i=n:=by omega
   have hbr:Blk wr be tBe #[.slice (some ⟨bh,0,none⟩) i cap,.bool ln,.slice la ll lc,.bool od,pv]:=(ho.old be HLT.out.1 (by simp;exact hne)).trans HB.out;have hrF:=hr.congr (F:=yP Ef k c q) fun a ha j hj=>by
    show(if a<i then yP Ef k c q a else Ef a) j=_;rw[if_pos ha]
   have hvp:=VQP.out.keepO ho HBH.out dE;obtain⟨zb,z,s,a,l,t,rfl,zl,hz,z1,z2,hzv⟩:=hvp.cell (k:=c) (by rw[zD];exact hc);rw[zP hc]at hz;injection hz with hz
   subst hz;have HZ:=xgv hzv;have HBR:=xgv hbr;have HRF:=xgv hrF;have c1:=hbr.cell 1;have c2:=hbr.cell 2;have c3:=hbr.frozen 1;have c4:=hbr.frozen 2;clear hbr hrF hvp hzv hr;go_wp2;have hx:=(HBR.out.lext (by decide:tBe≠tU) 1 (.bool s)).trans ((HBR.out.set_ 1 (.bool s)).lext (by decide:tBe≠tU) 2 (.slice a l t));have hold:=fun g (hg:g≠be)=>zV wr be 1 2 g (.bool s) (.slice a l t) hg
   obtain⟨cs2,f1,f2,f3⟩:=HRF.out;refine bodyPost_end (results_none rfl _ _ _) rfl ⟨⟨_,rfl⟩,⟨zO (zO ho.bel (Nat.zero_le _) _ _) (Nat.zero_le _) _ _,ho.lext.trans hx,fun g hg hn=>(hold g fun e=>hn (by rw[e];simp)).trans (ho.old g hg fun e=>hn (by simp at e;rw[e];simp))⟩,⟨cs2,(hold bh (Ne.symm hne)).trans f1,f2,fun a ha=>?_⟩,s,a,l,t,HZ.out.ext hx,by simpa using(HBR.out.set_ 1 (.bool s)).set_ 2 (.slice a l t)⟩;obtain⟨o,c,e1,e2⟩:=f3 a ha;exact⟨o,c,e1,e2.gone HBR.out dE (fun g _ hg=>hold g hg) hx⟩
def RsO(w:World)(base:Nat)(v:Value)(M:List (List Int)):Prop:=
 ∃rvs,w.ownsRow base tR 1 v M.length rvs/\rvs.length=M.length/\∀(k:Nat) (rv:Value) (zs:List Int),rvs[k]?=some rv->M[k]?=some zs->qN w rv zs
theorem zCB(P:Program)(w:World)(t ty e:TypeId)(i:TypeInfo)(ht:P.underlying t=some (.slice e))(hi:P.info? e=some i)
  (g:Option Addr) (n cap:Nat) (hg:g=none->n=0/\cap=0) (hn:n<=cap) (ao:Option Addr) (c:Nat):
  (Builtin.append_ #[t,t] ty #[.slice g n cap,.slice ao 0 c]).run P w= .ok (.slice g n cap) w:=by
 cases g with
 |none=>
  obtain⟨rfl,rfl⟩:=hg rfl;cases ao<;>simp[Builtin.append_,run_underlying ht,sizeOf,typeInfo,hi,Builtin.lenOf,Builtin.firstCells,loadCells,loadCellsFrom]
 |some g=>
  cases ao<;>simp[Builtin.append_,run_underlying ht,sizeOf,typeInfo,hi,Builtin.lenOf,Builtin.firstCells,loadCells,loadCellsFrom,storeCells,hn]
theorem qN.sameB{w w':World}{v:Value}{zs:List Int}(h:qN w v zs)(e:∀b,qC w b zs->w'.heap[b]?=w.heap[b]?)(x:yI w w'):qN w' v zs:=by
 obtain⟨ao,n,cap,h1,h2,h3,h4,h5⟩:=h;exact⟨ao,n,cap,h1,h2,h3,h4,fun hn=>(h5 hn).elim fun b h=>⟨b,h.1,h.2.old (e b h.2) x⟩⟩
theorem zQG{w:World}{ops:Array Oper}{rest:List Oper}{o:Oper}{a:Act}{Q:Exit->Act->World->Prop}(hgd:o.guard=none)(s x:Operand)
  (ho:o.op= .call {callee:=.builtin .append,args:=#[s,x],argTypes:=#[26,26]})
  (base:Nat) (v:Value) (M:List (List Int)) (hs:a.eval s=v) (hown:RsO w base v M) (xv:Value) (N:List (List Int)) (hx:a.eval x=xv) (hy:jA w xv N)
  (hlen:M.length+N.length<=1099511627776) (hbase:base<=w.heap.size)
  (h:∀v' w',RsO w' base v' (M++N)->w.grownBy w' v.ownBlock->yI w w'->wpList Tryz.prog ops Q rest (a.put o.dst v') w'):wpList Tryz.prog ops Q (o::rest) a w:=by
 obtain⟨i0,hi,hz0,hz1,hz2⟩:=info_parts Tryz.infoR;obtain⟨ao,n,c,rfl,hn,hnc,hcc,hcell⟩:=hy;by_cases h0:N= []
 ·subst h0
  obtain rfl:0=n:=by simpa using hn
  have hr:(Builtin.append_ #[26,26] o.type #[v,.slice ao 0 c]).run Tryz.prog w= .ok v w:=by
   obtain⟨cells,h1,-⟩:=hown;rcases h1.2 with⟨rfl,h0⟩|⟨g,cap,cur,rfl,e2,e3,e4,-⟩
   ·exact zCB Tryz.prog w _ o.type tR i0 Tryz.underlying26 hi none 0 0 (fun _=>⟨rfl,rfl⟩) (xgf _) ao c
   ·exact zCB Tryz.prog w _ o.type tR i0 Tryz.underlying26 hi _ _ cap (fun e=>by cases e) e4 ao c
  have h:=h v w (by rwa[List.append_nil]) ⟨rfl,rfl,rfl,xgf _,fun _ _ _=>rfl⟩ (lx (Below.refl _ _));refine wpList_plain hgd fun K hK=>?_
  unfold Oper.wp execOp;simp only[ho,resolve,invoke,builtin,Sem.run_bind,Sem.run_pure,Result.andThen_ok,List.map_toArray,List.map_cons,List.map_nil,hs,hx,hr];exact hK _ _ h
 ·obtain⟨b,cs,rfl,hbl,hrow⟩:=hcell h0
  obtain⟨rvs,h1,h2,h3⟩:=hown;have hsz:n<=cs.size:=by
   have hp:0<N.length:=List.length_pos_iff.2 h0;obtain⟨rv,q,-⟩:=hrow (N.length-1) _ (xga oM);have:=(Array.getElem?_eq_some_iff.1 q).1;omega
  have hnews:∀(k:Nat) (u:Value),(cs.toList.take n)[k]?=some u->k<n/\cs[k]?=some u:=fun k u hk=>by
   rw[List.getElem?_take]at hk;split at hk
   ·exact⟨by assumption,by simpa using hk⟩
   ·cases hk
  refine wpList_append_own w hgd s x 26 ho base tR i0 _ 1 24 Tryz.underlying26 hi hz0 hz1 hz2 rfl oM v M.length _ hs h1 ⟨b,0,none⟩ n c (cs.toList.take n) hx (by simp;omega) ?_ ?_ (by simp[maxLen];omega) oM hbase ?_
  ·intro j u hj
   rw[Addr.add_lit,Nat.zero_add,cell_of_row w b j cs tR _ hbl];exact(hnews j u hj).2
  ·intro u hu
   obtain⟨k,hk⟩:=List.getElem?_of_mem hu;obtain⟨hkn,hk2⟩:=hnews k u hk;obtain⟨rv,q,_,_,_,rfl,-⟩:=hrow k _ (xga (by omega:k<N.length));rw[q]at hk2;injection hk2 with hk2
   subst hk2;rfl
  ·intro v' w' k1 k2 _
   have hxg:=zAO h1 dE k2;have hkeep:∀u zs,qN w u zs->qN w' u zs:=fun u zs hu=>qN.sameB hu (fun b hq=>k2.block b hq.lt (zDA h1 hq)) hxg
   refine h v' w' ⟨rvs++cs.toList.take n,by rw[List.length_append,hn];exact k1,by simp[h2,hn];omega,?_⟩ k2 hxg;intro k u zs hg hq;rcases Nat.lt_or_ge k rvs.length with hlt|hge
   ·rw[List.getElem?_append_left hlt]at hg
    rw[List.getElem?_append_left oM]at hq;exact hkeep _ _ (h3 k u zs hg hq)
   ·rw[List.getElem?_append_right hge]at hg
    rw[List.getElem?_append_right oM,<-h2]at hq;obtain⟨hkn,hk2⟩:=hnews _ u hg;obtain⟨rv,q1,q2⟩:=hrow _ zs hq;rw[q1]at hk2;injection hk2 with hk2
    subst hk2;exact hkeep _ _ q2
theorem zCT.rows{w:World}{b n m:Nat}{E:Nat->Nat->Int}(h:zCT w b n m E){cap:Nat}(h1:n<=cap)(h2:cap<=9223372036854775807):jA w (.slice (some ⟨b,0,none⟩) n cap) (zY n m E):=by
 obtain⟨cs,g1,g2,g3⟩:=h;refine⟨some ⟨b,0,none⟩,n,cap,rfl,by simp[zY],h1,h2,fun _=>⟨b,cs,rfl,g1,fun k zs hk=>?_⟩⟩;have hkn:k<n:=by
  have:=(xge.1 hk).1;simpa[zY]using this
 obtain⟨o,c,e1,e2⟩:=g3 k hkn;have:zs=zM m (E k):=by
  rw[zAW n m E hkn]at hk;injection hk with hk
  exact hk.symm
 rw[this];exact⟨_,e1,e2⟩
theorem zCT.of_own{w:World}{base n m:Nat}{v:Value}{E:Nat->Nat->Int}(h:RsO w base v (zY n m E))(hv:v≠ .slice none 0 0):∃b cap,v= .slice (some ⟨b,0,none⟩) n cap/\base<=b/\n<=cap/\cap<=9223372036854775807/\zCT w b n m E:=by
 obtain⟨rvs,h1,h2,h3⟩:=h;rcases h1.2 with⟨rfl,h0⟩|⟨g,cap,cur,rfl,e2,e3,e4,e5,e6,e7⟩
 ·exact absurd rfl hv
 ·have hl:(zY n m E).length=n:=by simp[zY]
  rw[hl]at e4 e7 h2;rw[hl];have hcs:n<=cur.size:=by
   have:=congrArg List.length e7;rw[List.length_take,h2]at this;simp at this;omega
  refine⟨g,cap,rfl,e2,e4,e5,cur,e3,hcs,fun i hi=>?_⟩;obtain⟨rv,hr⟩:∃rv,rvs[i]?=some rv:=⟨_,xga oM⟩;have hv2:=h3 i rv _ hr (zAW n m E hi);obtain⟨o,k,c,rfl,hk,-⟩:=id hv2;obtain rfl:m=k:=by rw[<-hk];simp
  refine⟨o,c,?_,hv2⟩;rw[<-e7,List.getElem?_take_of_lt oM]at hr;simpa using hr
theorem zJM(b n m cap:Nat)(E:Nat->Nat->Int)(w:World)(h:zCT w b n m E)(h1:n<=cap)(h2:cap<=9223372036854775807)(hn:n<=1000000)(hn1:1<=n):
  Calls Tryz.prog 268 #[.slice (some ⟨b,0,none⟩) n cap] w fun e w'=>∃g c,e= .returned (.slice (some ⟨g,0,none⟩) n c)/\w.heap.size<=g/\n<=c/\c<=9223372036854775807/\zCT w' g n m E/\Below w.heap.size w w':=by
 have hR:=xgv (h.rows h1 h2);have hl:qE ((zY n m E).length=n):=⟨by simp[zY]⟩;have heq:=fun W=>Lib.run_eql_slice_nil (P:=Tryz.prog) W 26 tR (some ⟨b,0,none⟩) n cap 0 0 Tryz.underlying26
 have hBw:Below w.heap.size w (w.alloc (.cells #[] tR)):=(Below.refl _ _).alloc (xgf _) _;go_enter Tryz.func268,Tryz.ntmps268;go_wp2_with (at_builtin;refine zQG rfl _ _ rfl w.heap.size (.slice (some ⟨w.heap.size,0,none⟩) 0 0) [] rfl ⟨[],World.ownsRow_made w #[] 0 (xgf _) (Nat.zero_le _) rfl,rfl,fun k _ _ h=>by simp at h⟩ (.slice (some ⟨b,0,none⟩) n cap) (zY n m E) rfl (hR.out.below hBw) (by rw[hl.out,List.length_nil];omega) sI ?_;intro v' w' hown hgr hxx)
 rw[List.nil_append]at hown;obtain⟨g,c,rfl,g1,g2,g3,g4⟩:=zCT.of_own hown (fun e=>by
  obtain⟨rvs,f1,f2,-⟩:=hown;rcases f1.2 with⟨-,h0⟩|⟨g,cap,cur,e2,-⟩
  ·rw[hl.out]at h0;omega
  ·rw[e]at e2;cases e2)
 have hB:Below w.heap.size w w':=hBw.grown hgr sI (fun k hk=>by simp[Value.ownBlock]at hk;omega);go_ret;exact⟨g,c,rfl,g1,g2,g3,g4,hB⟩
theorem zBd.onlyS{w w':World}{base:Nat}{v:Value}{xs:List Nat}{S:List Nat}(h:zBd w base v xs)(ho:qU S w w')(hA:∀g,v.ownBlock=some g->g ∉ S):zBd w' base v xs:=by
 obtain⟨h0,h1,h2⟩:=h;refine⟨h0,h1,?_⟩;rcases h2 with h3|⟨g,cap,cur,e1,e2,e3,e4⟩
 ·exact .inl h3
 ·exact .inr ⟨g,cap,cur,e1,e2,(ho.old g (Array.getElem?_eq_some_iff.1 e3).1 (hA g (by rw[e1];rfl))).trans e3,e4⟩
theorem zBd.neB{w:World}{base:Nat}{v:Value}{xs:List Nat}{b:Nat}{T:TypeId}{cs:Array Value}(h:zBd w base v xs)(hb:Blk w b T cs)(hT:T≠tNn):∀g,v.ownBlock=some g->g≠b:=by
 rintro g hg rfl;rcases h.2.2 with⟨rfl,-⟩|⟨g',cap,cur,rfl,-,e3,-⟩
 ·cases hg
 ·simp only[Value.ownBlock,Option.some.injEq]at hg
  subst hg;unfold Blk at hb;rw[e3]at hb;injection hb with hb
  injection hb with _ ht
  exact hT ht.symm
theorem zCT.onlyS{w w':World}{b n m:Nat}{E:Nat->Nat->Int}{S:List Nat}(h:zCT w b n m E)(ho:qU S w w')(h1:b ∉ S)(h2:∀g zs,qC w g zs->g ∉ S):zCT w' b n m E:=by
 obtain⟨cs,g1,g2,g3⟩:=h;refine⟨cs,(ho.old b g1.lt h1).trans g1,g2,fun i hi=>?_⟩;obtain⟨o,c,e1,e2⟩:=g3 i hi;exact⟨o,c,e1,e2.sameB (fun g hg=>ho.old g hg.lt (h2 g _ hg)) ho.lext⟩
structure BeV(w:World)(base be n m:Nat)(s:BE):Prop where
 ex:∃bh cap ln la ll lc pv,Blk w be tBe #[.slice (some ⟨bh,0,none⟩) n cap,.bool ln,.slice la ll lc,.bool s.odd,pv]/\n<=cap/\cap<=9223372036854775807/\base<=be/\base<=bh/\be≠bh/\zCT w bh n m s.E/\zH w (.agg #[.bool ln,.slice la ll lc]) s.last/\zBd w base pv s.pv
theorem BeV.below{w w':World}{base be n m:Nat}{s:BE}(h:BeV w base be n m s)(hb:Below w.heap.size w w'):BeV w' base be n m s:=by
 obtain⟨bh,cap,ln,la,ll,lc,pv,h1,h2,h3,h4,h5,h6,h7,h8,h9⟩:=h.ex;exact⟨bh,cap,ln,la,ll,lc,pv,h1.below hb,h2,h3,h4,h5,h6,h7.below hb,h8.ext (lx hb),h9.below hb⟩
theorem zGh{n:Nat}{L:Nat->Nat->Int}{c:Nat}(h:¬ (zAi n L c).pv.length<n):∀d,zAi n L (c+d)=zAi n L c
 |0=>rfl
 |d+1=>by
  show zGd n (c+d) (zAi n L (c+d))=_;rw[zGh h d];unfold zGd;rw[if_neg fun h2=>h h2.1]
theorem zN8{n c i:Nat}{s:BE}(h1:s.pv.length<=i)(h2:i<n)(h3:s.E i c≠0)(h4:∀j,s.pv.length<=j->j<i->s.E j c=0):zEw n c s=i:=by
 unfold zEw;exact zB2 h1 oM (by simpa using h3) fun j hj1 hj2=>by simpa using h4 j hj1 hj2
theorem zJK{n c i:Nat}{s:BE}(h1:s.pv.length<=i)(h2:i<n)(h3:s.E i c≠0)(h4:∀j,s.pv.length<=j->j<i->s.E j c=0):
  zGd n c s=⟨yP (bx s.E i s.pv.length) s.pv.length c s.last,bx s.E i s.pv.length s.pv.length c,s.odd^^decide (i≠s.pv.length),s.pv++ [c]⟩:=by
 unfold zGd;rw[zN8 h1 h2 h3 h4,if_pos ⟨by omega,h2⟩]
theorem zKK{n c:Nat}{s:BE}(h1:s.pv.length<=n)(h4:∀j,s.pv.length<=j->j<n->s.E j c=0):zGd n c s=s:=by
 unfold zGd;rw[if_neg fun h=>?_];have:=zBF (fun i=>decide (s.E i c≠0)) s.pv.length (n-s.pv.length) (by have:=h.2;unfold zEw at this;omega);rw[decide_eq_true_eq]at this;exact this (h4 _ (zBG _ _ _).1 (by have:=h.2;unfold zEw at this;exact this))
theorem zMH{e:Nat}(b n m cap cols:Nat)(L:Nat->Nat->Int)(w:World)(h:zCT w b n m L)(h1:n<=cap)(h2:cap<=9223372036854775807)(hn:n<=1000000)(hn1:1<=n)(hm:m<=1000000)(hcm:cols<=m)(he:2*e+1<=1000000)
  (hS:∀c,c<=cols->(zAi n L c).pv.length<=n/\(zAi n L c).last≠0/\(zAi n L c).last.natAbs<2^e/\∀i,i<n->∀j,j<m->((zAi n L c).E i j).natAbs<2^e):
  Calls Tryz.prog 230 #[.slice (some ⟨b,0,none⟩) n cap,.int .i64 cols,.bool true] w fun e w'=>∃be,e= .returned (.pointer (some ⟨be,0,none⟩))/\BeV w' w.heap.size be n m (zAi n L cols)/\Below w.heap.size w w':=by
 have HS:=xgv hS;have H:=xgv h;clear hS h;go_enter Tryz.func230,Tryz.ntmps230;go_wp2;refine wp_scope_straight ?_;go_wp2_with fail
 refine(zJM b n m cap L w H.out h1 h2 hn hn1).mono ?_;rintro e' w1 ⟨bh,cap',rfl,g1,g2,g3,g4,hb1⟩;have HG:=xgv g4;clear g4;go_wp2_with fail
 refine(zBK 1 w1 dE dE).mono ?_;rintro e' w2 ⟨o,rfl,ho,hb2⟩;obtain⟨ln,la,ll,lc,rfl⟩:=ho.parts;have HO:=xgv ho;have hB:=nx hb1 hb2;have HG:=xgv (HG.out.below hb2);clear ho;go_upto_region 2 with(fail)
 refine zB ?_;intro W3 hW3;obtain⟨hB3,T7,hs3⟩:=zK hW3;have q1:=hb1.size;have q2:=hb2.size;have q3:=HG.out.lt;have hbe0:BeV W3 w.heap.size w2.heap.size n m (zAi n L 0):=⟨bh,cap',ln,la,ll,lc,_,T7,g2,g3,by omega,g1,by omega,HG.out.below hB3,HO.out.ext (lx hB3),⟨by simp[zAi],World.ownsRow_nil _ _ _ _⟩⟩;have hB:=nx hB hB3;clear hW3;obtain⟨be,hbe⟩:∃be,w2.heap.size=be:=⟨_,rfl⟩;rw[hbe]at hbe0 ⊢
 clear hbe T7;go_wp2;refine wp_label ?_;go_wp2;go_loopw [8] (fun cv wr=>∃c:Nat,c<=cols/\cv= .int .i64 c/\Below w.heap.size w wr/\BeV wr w.heap.size be n m (zAi n L c)) (fun cv _=>cols-(intOf cv).toNat)
 case atStart=>exact⟨0,by omega,rfl,hB,hbe0⟩
 case round=>
  clear hB hbe0;obtain⟨c,hc,rfl,hB,hbe⟩:=hrel;obtain⟨bh,cap,ln,la,ll,lc,pv,h1,h2,h3,h4,h5,h6,h7,h8,h9⟩:=hbe.ex;obtain⟨po,pcap,rfl,p1,p2,p3⟩:=h9.at_;have HBE:=xgv hbe;have c1:=h1.cell 0;have c5:=h1.cell 4;obtain⟨f1,f2,f3,f4⟩:=HS.out c hc;clear hbe;by_cases hcl:c<cols
  ·obtain⟨k,hk⟩:∃k,(zAi n L c).pv.length=k:=⟨_,rfl⟩
   have HK:=xgv hk;rw[hk]at f1 c5;by_cases hkn:k<n
   ·have hkn':(k:Int)<n:=by omega
    go_upto_region 3 with(fail)
    refine zE rfl (RV wr _ [VN 0 17 c,VN 1 18 cols,E 2 19 (.bool true),E 3 20 (.bool true),VP 4 21 be 0,VP 5 22 be 0,VP 6 23 be 4,E 7 24 (.slice po k pcap),VN 8 25 k,VP 9 26 be 0,VP 10 27 be 0,VP 11 28 be 0,VP 12 29 be 0,VSl 13 30 bh n cap,VN 14 31 n,E 15 32 (.bool true),E 16 33 (.bool true)]) kR RV.start (RV.fin kR ?fin1) ?steps1
    case steps1=>
     (repeat' constructor)<;>(intro L T wS hL hd hcl hI K hK;try refine zA rfl ?_)
     ·exact xgs (hI.k 8 rfl kR)
     ·exact xgs (hI.k 1 rfl kR)
     ·exact xgt (hI.e mm0 (hd 0)) (hI.e mm1 (hd 1))
     ·exact xgs (hI.e mm2 (hd 2))
     ·have zg:=hI.e mm3 (hd 3)
      refine zA xgp ?_;exact xgs (hI.k 7 rfl kR)
     ·have zg:=hI.e mm3 (hd 3)
      refine zA xgp ?_;exact xgs (hI.e mm4 (hd 4))
     ·have zg:=hI.e mm3 (hd 3)
      refine zA xgp ?_;exact xgs (hI.e mm5 (hd 5))
     ·have zg:=hI.e mm3 (hd 3)
      refine zA xgp ?_;have zt6:=hI.e mm6 (hd 6);have cc0:=hI.cell c5;exact xgu
     ·have zg:=hI.e mm3 (hd 3)
      refine zA xgp ?_;exact xgs (hI.e mm7 (hd 7))
     ·have zg:=hI.e mm3 (hd 3)
      refine zA xgp ?_;exact xgs (hI.k 7 rfl kR)
     ·have zg:=hI.e mm3 (hd 3)
      refine zA xgp ?_;exact xgs (hI.e mm9 (hd 9))
     ·have zg:=hI.e mm3 (hd 3)
      refine zA xgp ?_;exact xgs (hI.e zAB (hd 10))
     ·have zg:=hI.e mm3 (hd 3)
      refine zA xgp ?_;exact xgs (hI.e zAG (hd 11))
     ·have zg:=hI.e mm3 (hd 3)
      refine zA xgp ?_;have zt12:=hI.e zAs (hd 12);have cc0:=hI.cell c1;exact xgu
     ·have zg:=hI.e mm3 (hd 3)
      refine zA xgp ?_;exact xgs (hI.e zCS (hd 13))
     ·have zg:=hI.e mm3 (hd 3)
      refine zA xgp ?_;exact xgt (hI.e mm8 (hd 8)) (hI.e zBq (hd 14))
     ·exact xgt (hI.e mm3 (hd 3)) (hI.e zCV (hd 15))
    intro w4 hbw4 T hT;simp only[Fin,E,EI,VP,VSl,VN,xgg,xgh,xgi,xgj]at hT;subst hT;have hB:=nx hB hbw4;have HBE:=xgv (HBE.out.below hbw4);have c5:=zI c5 hbw4;clear c1 h1 h7 h8 h9 p3;go_wp2;clear c5;go_loopw [10] (fun iv wt=>∃i:Nat,k<=i/\i<=n/\iv= .int .i64 i/\Below w.heap.size w wt/\BeV wt w.heap.size be n m (zAi n L c)/\qE (∀j,k<=j->j<i->(zAi n L c).E j c=0)) (fun iv _=>n-(intOf iv).toNat)
    case atStart=>exact⟨k,xgf _,by omega,rfl,hB,HBE.out,⟨fun j h1 h2=>by omega⟩⟩
    case round=>
     rename World=>wt
     clear hB HBE;obtain⟨i,hki,hin,rfl,hB,hbe,hz⟩:=hrel;by_cases hlt:i<n
     ·obtain⟨bh,cap,ln,la,ll,lc,pv,h1,h2,h3,h4,h5,h6,h7,h8,h9⟩:=hbe.ex
      obtain⟨ro,rc,r1,r2,hvr⟩:=h7.row hlt;obtain⟨zb,z,s1,a1,l1,t1,rfl,zl,hze,z1,z2,hzv⟩:=hvr.cell (k:=c) (by rw[zD];omega);rw[zP oM]at hze;injection hze with hze
      have HBE:=xgv hbe;have HZV:=xgv hzv;have HZE:=xgv hze;have c1:=h1.cell 0;obtain⟨kz,hkz⟩:∃k,qJ z 0=k:=⟨_,rfl⟩;have HSG:qE (∀(v:Value) (w:World),zH w v z->Calls Tryz.prog 160 #[v] w fun e w'=>e= .returned (.int .i64 kz)/\Below w.heap.size w w'):=⟨fun v w hv=>hkz ▸ qV v z w hv.weak⟩;have HKZ:qE (kz=0↔z=0):=⟨by rw[<-hkz];exact zCx⟩;clear hbe hzv hze hkz hvr h1 h7 h8 h9;go_wp2_with fail
      refine(HSG.out _ wt HZV.out).mono ?_;rintro e' w5 ⟨rfl,hb5⟩;have hB:=nx hB hb5;have HBE:=xgv (HBE.out.below hb5);clear c1 r1 r2 z1 z2 HSG HZV;by_cases hz0:z=0
      ·have hk0:=HKZ.out.2 hz0
       subst hk0;have hzz:qE (∀j,k<=j->j<i+1->(zAi n L c).E j c=0):=⟨fun j g1 g2=>by
        rcases Nat.lt_or_ge j i with h|h
        ·exact hz.out j g1 h
        ·obtain rfl:j=i:=by omega
         exact HZE.out.trans hz0⟩
       clear hz0 HKZ;go_wp2;go_roundw
       case rel=>exact⟨i+1,by omega,by omega,by simp,hB,HBE.out,hzz⟩
       case measure=>simp[intOf];omega
      ·have hk0:kz≠0:=fun h=>hz0 (HKZ.out.1 h)
       have hk0':(kz !=0)=true:=by simpa using hk0
       have HF:=xgv (zJK (n:=n) (c:=c) (i:=i) (s:=zAi n L c) (by rw[HK.out];exact hki) hlt (by rw[HZE.out];exact hz0) (by rw[HK.out];exact hz.out));obtain⟨bh,cap,ln,la,ll,lc,pv,h1,h2,h3,h4,h5,h6,h7,h8,h9⟩:=HBE.out.ex;rw[HK.out]at HF;have HSX:=xgv (HS.out c hc);obtain⟨S,hSe⟩:∃S,zAi n L c=S:=⟨_,rfl⟩;have HSe:=xgv hSe;rw[hSe]at h1 h7 h8 h9 HF HSX HK;have H7:=xgv h7;have H8:=xgv h8;have H9:=xgv h9;have H1:=xgv h1;have lbe:=h1.lt;have lbh:=h7.lt;clear hz0 HKZ HZE hz HBE hSe h1 h7 h8 h9;go_wp2_with fail
       refine(zKL be bh n m i k cap S.E ln S.odd la ll lc pv w5 H1.out H7.out hlt hkn h6).mono ?_;rintro e' w6 ⟨⟨u6,rfl⟩,ho6,hr6,hb6⟩;have hB6:Below w.heap.size w w6:=Below.only hB ho6 (xgf _) (fun g hg=>by simp at hg;omega);have H9:=xgv (H9.out.onlyS ho6 (fun g hg=>by
        have n1:=H9.out.neB H1.out dE g hg;have n2:=H9.out.neB (H7.out).choose_spec.1 dE g hg;simp;omega))
       have H8:=xgv (H8.out.ext ho6.lext);have H1:=xgv hb6;have H7:=xgv hr6;clear hb6 hr6 ho6;go_wp2_with fail
       refine(zKP (e:=e) be bh n m k c cap (bx S.E i k) S.last ln _ la ll lc pv w6 H1.out H7.out H8.out hkn oM hm hn h6 HSX.out.2.1 he HSX.out.2.2.1 (fun a ha j hj=>by
        unfold bx;split
        ·exact HSX.out.2.2.2 k hkn j hj
        ·split
         ·exact HSX.out.2.2.2 i hlt j hj
         ·exact HSX.out.2.2.2 a ha j hj)).mono ?_
       rintro e' w7 ⟨⟨u7,rfl⟩,ho7,hr7,s7,a7,l7,t7,hq7,hb7⟩;have q6:=hB6.size;have lbe6:=H1.out.lt;have hB7:Below w.heap.size w w7:=Below.only hB6 ho7 (xgf _) (fun g hg=>by simp at hg;omega);have H9:=xgv (H9.out.onlyS ho7 (fun g hg=>by
        have n1:=H9.out.neB H1.out dE g hg;have n2:=H9.out.neB (H7.out).choose_spec.1 dE g hg;simp;omega))
       have H1:=xgv hb7;have H7:=xgv hr7;have H8:=xgv hq7;have c5:=hb7.cell 4;have c6:=hb7.frozen 4;have q7:=hB7.size;have hys:∀w':World,zA1 (w'.alloc (.cells #[.int .i64 c] tNn)) (some ⟨w'.heap.size,0,none⟩) [c]:=fun w'=>⟨by simp;omega,fun _=>⟨_,0,_,rfl,heap_alloc_new w' _,fun k x hk=>by
        match k with
        |0=>simp at hk;subst hk;rfl
        |k+1=>simp at hk⟩⟩
       clear hb7 hr7 ho7 hq7;have hal:Below w7.heap.size w7 (w7.alloc (.cells #[.int .i64 c] tNn)):=(Below.refl _ _).alloc (xgf _) _;have HN1:=xgv (H9.out.neB H1.out dE);have HN2:=xgv (H9.out.neB (H7.out).choose_spec.1 dE);have hpl:S.pv.length+1<=17592186044416:=by have:=HSX.out.1;omega
       have qa:=hal.size;have lb1:=H1.out.lt;have lb2:=H7.out.lt;clear hk0 hk0';go_wp2_with (at_builtin;refine zQE rfl _ _ rfl w.heap.size pv S.pv rfl (H9.out.below hal) (some ⟨w7.heap.size,0,none⟩) 1 1 [c] rfl (hys w7) rfl hpl (by simp;omega) ?_;intro v' w' hown hgr;have hb8:Blk w' be tBe _:=(hgr.block be (by simp;omega) (fun e=>HN1.out be e.symm rfl)).trans (H1.out.below hal);have d5:=hb8.cell 4;have d6:=hb8.frozen 4;obtain⟨vo,vc,rfl,-,-,-⟩:=hown.at_)
       have hxa:=zAO (H9.out.below hal).2 dE hgr;have hoG:qU pv.ownBlock.toList w7 w':=(qU.of _ hal).trans (zFc hgr hxa);have hx8:=hb8.lext (by decide:tBe≠tU) 4 (.slice vo (S.pv.length+1) vc);have hr8:=H7.out.onlyS hoG (by simpa using fun e=>HN2.out bh e rfl) (fun g zs hg=>by
        obtain⟨cs,hcs,-⟩:=hg;simpa using fun e=>H9.out.neB (T:=tI) (cs:=cs) hcs dE g e rfl)
       have hoB:qU [be] w' (w'.setCell ⟨be,4,none⟩ (.slice vo (S.pv.length+1) vc)):=⟨zO (Below.refl _ _) (Nat.zero_le _) _ _,hx8,fun g _ hg=>zU w' be 4 g _ (by simpa using hg)⟩;have hB8:Below w.heap.size w w':=Below.only hB7 hoG (xgf _) (fun g hg=>(H9.out.own g (by simpa using hg)).1);go_roundw
       case rel=>
        refine⟨c+1,by omega,by simp,zO hB8 h4 _ _,?_⟩;show BeV _ _ _ _ _ (zGd n c (zAi n L c));rw[HSe.out,HF.out];refine⟨bh,cap,s7,a7,l7,t7,.slice vo (S.pv.length+1) vc,by simpa using hb8.set_ 4 (.slice vo (S.pv.length+1) vc),h2,h3,h4,h5,h6,hr8.onlyS hoB (by simp;omega) (fun g zs hg=>by
         obtain⟨cs,hcs,-⟩:=hg;simp only[List.mem_singleton];rintro rfl;unfold Blk at hb8;rw[hcs]at hb8;injection hb8 with hb8
         injection hb8 with _ ht
         exact absurd ht dE),(H8.out.ext (hoG.lext.trans hx8)),?_⟩
        have:=hown.onlyS hoB (fun g hg=>by simpa using hown.neB hb8 dE g hg);simpa using this
       case measure=>simp[intOf];omega
     ·obtain rfl:i=n:=by omega
      have hcn:=zKK (c:=c) (by rw[HK.out];exact hki) (by rw[HK.out];exact hz.out);have hbn:BeV wt w.heap.size be i m (zAi i L (c+1)):=by
       show BeV _ _ _ _ _ (zGd i c (zAi i L c));rw[hcn];exact hbe
      clear hcn hbe hz;obtain⟨bh,cap,ln,la,ll,lc,pv,h1,h2,h3,h4,h5,h6,h7,h8,h9⟩:=hbn.ex;have c1:=h1.cell 0;have HBN:=xgv hbn;clear hbn h7 h8 h9 h1;go_wp2;go_roundw
      case rel=>exact⟨c+1,by omega,by simp,hB,HBN.out⟩
      case measure=>simp[intOf];omega
   ·obtain rfl:k=n:=by omega
    have hfu:=zGh (n:=k) (L:=L) (c:=c) (by rw[HK.out];omega) (cols-c);rw[show c+(cols-c)=cols by omega]at hfu;go_upto_region 3 with(fail)
    refine zE rfl (RV wr _ [VN 0 17 c,VN 1 18 cols,E 2 19 (.bool true),E 3 20 (.bool true),VP 4 21 be 0,VP 5 22 be 0,VP 6 23 be 4,E 7 24 (.slice po k pcap),VN 8 25 k,VP 9 26 be 0,VP 10 27 be 0,VP 11 28 be 0,VP 12 29 be 0,VSl 13 30 bh k cap,VN 14 31 k,E 15 32 (.bool false),E 16 33 (.bool false)]) kR RV.start (RV.fin kR ?fin2) ?steps2
    case steps2=>
     (repeat' constructor)<;>(intro L T wS hL hd hcl hI K hK;try refine zA rfl ?_)
     ·exact xgs (hI.k 8 rfl kR)
     ·exact xgs (hI.k 1 rfl kR)
     ·exact xgt (hI.e mm0 (hd 0)) (hI.e mm1 (hd 1))
     ·exact xgs (hI.e mm2 (hd 2))
     ·have zg:=hI.e mm3 (hd 3)
      refine zA xgp ?_;exact xgs (hI.k 7 rfl kR)
     ·have zg:=hI.e mm3 (hd 3)
      refine zA xgp ?_;exact xgs (hI.e mm4 (hd 4))
     ·have zg:=hI.e mm3 (hd 3)
      refine zA xgp ?_;exact xgs (hI.e mm5 (hd 5))
     ·have zg:=hI.e mm3 (hd 3)
      refine zA xgp ?_;have zt6:=hI.e mm6 (hd 6);have cc0:=hI.cell c5;exact xgu
     ·have zg:=hI.e mm3 (hd 3)
      refine zA xgp ?_;exact xgs (hI.e mm7 (hd 7))
     ·have zg:=hI.e mm3 (hd 3)
      refine zA xgp ?_;exact xgs (hI.k 7 rfl kR)
     ·have zg:=hI.e mm3 (hd 3)
      refine zA xgp ?_;exact xgs (hI.e mm9 (hd 9))
     ·have zg:=hI.e mm3 (hd 3)
      refine zA xgp ?_;exact xgs (hI.e zAB (hd 10))
     ·have zg:=hI.e mm3 (hd 3)
      refine zA xgp ?_;exact xgs (hI.e zAG (hd 11))
     ·have zg:=hI.e mm3 (hd 3)
      refine zA xgp ?_;have zt12:=hI.e zAs (hd 12);have cc0:=hI.cell c1;exact xgu
     ·have zg:=hI.e mm3 (hd 3)
      refine zA xgp ?_;exact xgs (hI.e zCS (hd 13))
     ·have zg:=hI.e mm3 (hd 3)
      refine zA xgp ?_;exact xgt (hI.e mm8 (hd 8)) (hI.e zBq (hd 14))
     ·exact xgt (hI.e mm3 (hd 3)) (hI.e zCV (hd 15))
    intro w4 hbw4 T hT;simp only[Fin,E,EI,VP,VSl,VN,xgg,xgh,xgi,xgj]at hT;subst hT;have hB:=nx hB hbw4;have HBE:=xgv (HBE.out.below hbw4);go_wp2;unfold Exit.noGoto;go_ret;exact⟨be,rfl,by rw[hfu];exact HBE.out,hB⟩
  ·obtain rfl:c=cols:=by omega
   go_upto_region 3 with(fail)
   refine zE rfl (RV wr _ [VN 0 17 c,VN 1 18 c,E 2 19 (.bool false),E 3 20 (.bool false),E 4 21 (undef),E 5 22 (undef),E 6 23 (undef),E 7 24 (undef),E 8 25 (undef),E 9 26 (undef),E 10 27 (undef),E 11 28 (undef),E 12 29 (undef),E 13 30 (undef),E 14 31 (undef),E 15 32 (undef),E 16 33 (.bool false)]) kR RV.start (RV.fin kR ?fin3) ?steps3
   case steps3=>
    (repeat' constructor)<;>(intro L T wS hL hd hcl hI K hK;try refine zA rfl ?_)
    ·exact xgs (hI.k 8 rfl kR)
    ·exact xgs (hI.k 1 rfl kR)
    ·exact xgt (hI.e mm0 (hd 0)) (hI.e mm1 (hd 1))
    ·exact xgs (hI.e mm2 (hd 2))
    ·have zg:=hI.e mm3 (hd 3)
     refine qD xgp ?_;exact hK _ _ (hI.y mm4 rfl)
    ·have zg:=hI.e mm3 (hd 3)
     refine qD xgp ?_;exact hK _ _ (hI.y mm5 rfl)
    ·have zg:=hI.e mm3 (hd 3)
     refine qD xgp ?_;exact hK _ _ (hI.y mm6 rfl)
    ·have zg:=hI.e mm3 (hd 3)
     refine qD xgp ?_;exact hK _ _ (hI.y mm7 rfl)
    ·have zg:=hI.e mm3 (hd 3)
     refine qD xgp ?_;exact hK _ _ (hI.y mm8 rfl)
    ·have zg:=hI.e mm3 (hd 3)
     refine qD xgp ?_;exact hK _ _ (hI.y mm9 rfl)
    ·have zg:=hI.e mm3 (hd 3)
     refine qD xgp ?_;exact hK _ _ (hI.y zAB rfl)
    ·have zg:=hI.e mm3 (hd 3)
     refine qD xgp ?_;exact hK _ _ (hI.y zAG rfl)
    ·have zg:=hI.e mm3 (hd 3)
     refine qD xgp ?_;exact hK _ _ (hI.y zAs rfl)
    ·have zg:=hI.e mm3 (hd 3)
     refine qD xgp ?_;exact hK _ _ (hI.y zCS rfl)
    ·have zg:=hI.e mm3 (hd 3)
     refine qD xgp ?_;exact hK _ _ (hI.y zBq rfl)
    ·have zg:=hI.e mm3 (hd 3)
     refine qD xgp ?_;exact hK _ _ (hI.y zCV rfl)
    ·exact xgt (hI.e mm3 (hd 3)) (hI.e zCV (hd 15))
   intro w4 hbw4 T hT;simp only[Fin,E,EI,VP,VSl,VN,xgg,xgh,xgi,xgj]at hT;subst hT;have hB:=nx hB hbw4;have HBE:=xgv (HBE.out.below hbw4);go_wp2;unfold Exit.noGoto;go_ret;exact⟨be,rfl,HBE.out,hB⟩
def zIX(w:World)(b j n m:Nat)(E:Nat->Nat->Int):Prop:=∃cs:Array Value,Blk w b tR cs/\n<=cs.size/\∀i,i<j->∃o c,cs[i]?=some (.slice o m c)/\qN w (.slice o m c) (zM m (E i))
theorem zIX.lt{w:World}{b j n m:Nat}{E:Nat->Nat->Int}(h:zIX w b j n m E):b<w.heap.size:=by
 obtain⟨cs,h1,-⟩:=h;exact h1.lt
theorem zIX.below{w w':World}{b j n m:Nat}{E:Nat->Nat->Int}(h:zIX w b j n m E)(hb:Below w.heap.size w w'):zIX w' b j n m E:=by
 obtain⟨cs,h1,h2,h3⟩:=h;refine⟨cs,h1.below hb,h2,fun i hi=>?_⟩;obtain⟨o,c,e1,e2⟩:=h3 i hi;exact⟨o,c,e1,e2.below hb⟩
theorem zIX.full{w:World}{b n m:Nat}{E:Nat->Nat->Int}(h:zIX w b n n m E):zCT w b n m E:=by
 obtain⟨cs,h1,h2,h3⟩:=h;exact⟨cs,h1,h2,h3⟩
theorem zIX.facts{w:World}{b j n m:Nat}{E:Nat->Nat->Int}(h:zIX w b j n m E)(hj:j<n):(∃u,w.cell? ⟨b,j,none⟩=some u)/\w.frozen? ⟨b,j,none⟩=false:=by
 obtain⟨cs,h1,h2,-⟩:=h;exact⟨zIc h1 oM,h1.frozen j⟩
theorem zIX.put{w:World}{b j n m:Nat}{E:Nat->Nat->Int}{o:Option Addr}{c:Nat}(h:zIX w b j n m E)(hj:j<n)(hv:qN w (.slice o m c) (zM m (E j))):zIX (w.setCell ⟨b,j,none⟩ (.slice o m c)) b (j+1) n m E/\yI w (w.setCell ⟨b,j,none⟩ (.slice o m c)):=by
 obtain⟨cs,h1,h2,h3⟩:=h;have hx:=h1.lext (by decide:tR≠tU) j (.slice o m c);have ho:∀g,g≠b->(w.setCell ⟨b,j,none⟩ (.slice o m c)).heap[g]?=w.heap[g]?:=fun g hg=>zU w b j g _ hg
 refine⟨⟨cs.setIfInBounds j (.slice o m c),h1.set_ j _,by simpa using h2,fun i hi=>?_⟩,hx⟩;by_cases e:i=j
 ·subst e
  exact⟨o,c,Array.getElem?_setIfInBounds_self_of_lt oM,hv.gone h1 dE (fun g _ hg=>ho g hg) hx⟩
 ·obtain⟨o',c',e1,e2⟩:=h3 i oM
  exact⟨o',c',by rw[xgc (Ne.symm e)];exact e1,e2.gone h1 dE (fun g _ hg=>ho g hg) hx⟩
theorem zMw{R C j:Nat}{A:Nat->Nat->Int}{y:Nat->Int}(hj:j<C):((zM (R+1+C) (qA (fun i=>A i j) (fun _=>0) R)).set R (y j)).set (R+1+j) 1=zM (R+1+C) (eqL R A y j):=by
 rw[zAk,zAk];refine zQ fun t ht=>?_
 unfold eqL qA;by_cases e1:t<R
 ·rw[if_neg oM,if_neg oM,if_pos e1,if_pos e1]
 ·by_cases e2:t=R
  ·rw[if_neg oM,if_pos e2,if_neg e1,if_pos e2]
  ·rw[if_neg e2,if_neg e1,if_neg e2,if_neg e1]
end Go.Proofs.YtnbmaipobhppcaaGreat
