/- hermite: work.add, mix, negate where the rows of u and v are nil. -/
import Derived.Test.YtgnmdddaiefooaaGreatR19
set_option linter.unusedVariables false
set_option linter.unusedSimpArgs false
set_option linter.unusedSectionVars false
set_option maxHeartbeats 16000000
set_option maxRecDepth 100000
namespace Go.Proofs.YtgnmdddaiefooaaGreat
open Go.RowKit
theorem zGT(mv:Value)(m0 m1 m2 m3:Int)(w:World)(hm:M4V w mv m0 m1 m2 m3):
  Calls Tryz.prog 147 #[.slice none 0 0,.slice none 0 0,mv] w fun e w'=>(∃u,e= .returned u)/\Below w.heap.size w w':=by
 obtain⟨n0,a0,l0,c0,n1,a1,l1,c1,n2,a2,l2,c2,n3,a3,l3,c3,rfl,-⟩:=id hm;go_enter Tryz.func147,Tryz.ntmps147;go_upto_region 1 with(fail)
 refine zC ?_;intro W0 hW0;obtain⟨hB0,bk,hs0⟩:=zN hW0;clear hW0;go_wp2;go_loopw [11] (fun iv wr=>iv= .int .i64 0/\wr=W0) (fun _ _=>0)
 case atStart=>exact⟨rfl,rfl⟩
 case round=>
  obtain⟨rfl,rfl⟩:=hrel;go_wp2;exact bodyPost_end (results_none rfl _ _ _) rfl ⟨⟨_,rfl⟩,hB0⟩
theorem zLf(bw:Nat)(Ah Au Av:Value)(n Cs i j:Nat)(bss:List Nat)(S:Nat->Nat->Int)(kv:Value)(k:Int)(w:World)(hbw:Blk w bw tHW #[Ah,Au,Av])(hs:Wri w Ah n Cs bss S)(hu:zBa w Au n)(hv:zBa w Av n)(hi:i<n)(hj:j<n)(hij:i≠j)(hk:zR w kv k)
  (hn:n<=1000000) (hCs:Cs<=1000000) (hS:zJq Cs S i j k) (hks:Sm k):
  Calls Tryz.prog 125 #[.pointer (some ⟨bw,0,none⟩),.int .i64 i,.int .i64 j,kv] w fun e w'=>(∃u,e= .returned u)/\zM (fun b=>b∈bss) w w'/\Blk w' bw tHW #[Ah,Au,Av]∧
   Wri w' Ah n Cs bss (jL S i j k)/\zBa w' Au n/\zBa w' Av n:=by
 obtain⟨so,sn,sc,rfl,s1,s2,s3,-⟩:=id (zJ.rows hs);obtain⟨kn,ka,kl,kc,kx,rfl,hkx⟩:=id hk;have HKX:=xgw hkx;have HS:=xgv hS;have HK:=xgv hks;clear hkx hS hks;have e1:n=sn:=by rw[<-s1];simp[genM]
 subst e1;clear s1;obtain⟨gs,_,rfl,-⟩:=zJ.at_ hs (i:=i) (by rw[hs.len];exact hi);obtain⟨gt,tc,-,rfl,-⟩:=id hu;obtain⟨gi,ic,-,rfl,-⟩:=id hv;have hlt:∀b,b∈bss->b<w.heap.size:=fun b hb=>(hs.blk hb).elim fun r hr=>hr.lt
 go_enter Tryz.func125,Tryz.ntmps125;go_upto_region 1 with(fail)
 refine zC ?_;intro W0 hW0;obtain⟨hB0,bk,hs0⟩:=zN hW0;have bx:=hbw.below hB0;have hs:=hs.below hB0;have hu:=hu.below hB0;have hv:=hv.below hB0;have hk:=hk.ext (lx hB0);have hO:=zM.of (fun b=>b∈bss) hB0;clear hW0 hbw;obtain⟨g1,bi,eg1,hg1,hbi1,hb1,o1,-⟩:=zJ.at_ hs (i:=i) (by rw[hs.len];exact hi);obtain⟨g2,bj,eg2,hg2,hbj1,hb2,o2,-⟩:=zJ.at_ hs (i:=j) (by rw[hs.len];exact hj);obtain rfl:gs=g1:=by injection eg1 with eg1;injection eg1
 obtain rfl:gs=g2:=by injection eg2 with eg2;injection eg2
 clear eg1 eg2 hb1 hb2;have hm1:=xgd hbi1;obtain⟨ri,hri⟩:=hs.blk hm1;obtain⟨x1,x2,x3,x4,x5,x6⟩:=bx.three;obtain⟨d1,d2,d3,d4⟩:=bk.two;have lbx:=bx.lt;have lk:=bk.lt;refine zB 15 rfl (RI W0 (W0.heap.size) _ 51
   [VP 0 8 bw 0,VP 1 9 bw 0,VP 2 10 bw 0,VSl 3 11 gs n sc,VN 4 12 i,VP 5 13 gs i,VSl 6 14 bi Cs Cs,VP 7 15 bw 0,VP 8 16 bw 0,VP 9 17 bw 0,VSl 10 18 gs n sc,VN 11 19 j,VP 12 20 gs j,VSl 13 21 bj Cs Cs,E 14 22 (.agg #[.bool kn,.slice ka kl kc])] [] []) kR RI.start (RI.fin kR ?fin1) ?steps1
 case steps1=>
  refine⟨?_,?_,?_,?_,?_,?_,?_,?_,?_,?_,?_,?_,?_,?_,?_,trivial⟩<;>(intro L T wS hL hd hcl hI K hK;try refine zA rfl ?_)
  ·exact xgs (hI.k 0 rfl kR)
  ·exact xgs (hI.e mm0 (hd 0))
  ·exact xgs (hI.e mm1 (hd 1))
  ·have zt2:=hI.e mm2 (hd 2)
   have cc0:=hI.cell x1 oM nom;exact xgu
  ·exact xgs (hI.k 1 rfl kR)
  ·exact xgt (hI.e mm3 (hd 3)) (hI.e mm4 (hd 4))
  ·have zt5:=hI.e mm5 (hd 5)
   have cc0:=hI.cell o1 oM nom;exact xgu
  ·exact xgs (hI.k 0 rfl kR)
  ·exact xgs (hI.e mm7 (hd 7))
  ·exact xgs (hI.e mm8 (hd 8))
  ·have zt9:=hI.e mm9 (hd 9)
   have cc0:=hI.cell x1 oM nom;exact xgu
  ·exact xgs (hI.k 2 rfl kR)
  ·exact xgt (hI.e yD (hd 10)) (hI.e zAB (hd 11))
  ·have zt12:=hI.e zAh (hd 12)
   have cc0:=hI.cell o2 oM nom;exact xgu
  ·have zt:=hI.k 7 rfl kR
   have cc0:=hI.cell d1 oM nom;have cc1:=hI.cell d2 oM nom;exact xgu
 intro w8 hlw8 hbw8 holdw8 T hT;simp only[Fin,E,EI,VP,VSl,VN,xgg,xgh,xgi,xgj]at hT;subst hT;simp only[xgl,xgk];have hH8:=hs.below hbw8;have hri8:=hri.below hbw8;clear o1 o2 x1 x2 x3 x4 x5 x6 d1 d2 d3 d4;go_wp2_with fail
 refine(zFf hH8 hi hj hij hbi1 hbj1 _ (k) (hk.ext (lx0 hbw8)) hCs HS.out HK.out).mono ?_;rintro e w9 ⟨⟨u,rfl⟩,ho,hH9⟩;have hkne:w.heap.size≠bi:=by have:=hlt bi (by simp[hm1]);omega
 have bx:=(bx.below hbw8).row ho hri8 dE;have bk:Blk w9 w.heap.size 51 #[.bool kn,.slice ka kl kc]:=(ho.old _ (bk.below hbw8).lt (by simpa using hkne)).trans (bk.below hbw8);have hk:=(hk.ext (lx0 hbw8)).ext ho.lext;have hO:=(hO.trans (zM.of _ hbw8)).trans (⟨ho.bel,ho.lext,fun k hk hn=>ho.old k hk (by simp;rintro rfl;exact hn (by simp[hm1]))⟩:zM _ w8 w9);have hu:=(hu.below hbw8).row ho hri8;have hv:=(hv.below hbw8).row ho hri8;have hs:Wri w9 (.slice (some ⟨gs,0,none⟩) n sc) n Cs bss (jL S i j k):=hH9;clear ho hri8 hri hH8 hH9 hm1 hkne hbi1 hbj1;go_upto_region 2 with(fail)
 obtain⟨g1,k1,eg1,o1⟩:=hu.at_ hi;obtain⟨g2,k2',eg2,o2⟩:=hu.at_ hj;obtain⟨rfl,rfl⟩:gt=g1/\tc=k1:=by simpa using eg1
 obtain⟨rfl,rfl⟩:gt=g2/\tc=k2':=by simpa using eg2
 have hg1:=World.block_lt_of_cell? _ _ o1;clear eg1 eg2;obtain⟨x1,x2,x3,x4,x5,x6⟩:=bx.three;obtain⟨d1,d2,d3,d4⟩:=bk.two;have lbx:=bx.lt;have lk:=bk.lt;refine zB 15 rfl (RI w9 (w9.heap.size) _ 51
   [VP 0 24 bw 0,VP 1 25 bw 0,VP 2 26 bw 1,VSl 3 27 gt n tc,VN 4 28 i,VP 5 29 gt i,E 6 30 (.slice none 0 0),VP 7 31 bw 0,VP 8 32 bw 0,VP 9 33 bw 1,VSl 10 34 gt n tc,VN 11 35 j,VP 12 36 gt j,E 13 37 (.slice none 0 0),E 14 38 (.agg #[.bool kn,.slice ka kl kc])] [] []) kR RI.start (RI.fin kR ?fin2) ?steps2
 case steps2=>
  refine⟨?_,?_,?_,?_,?_,?_,?_,?_,?_,?_,?_,?_,?_,?_,?_,trivial⟩<;>(intro L T wS hL hd hcl hI K hK;try refine zA rfl ?_)
  ·exact xgs (hI.k 0 rfl kR)
  ·exact xgs (hI.e mm0 (hd 0))
  ·exact xgs (hI.e mm1 (hd 1))
  ·have zt2:=hI.e mm2 (hd 2)
   have cc0:=hI.cell x2 oM nom;exact xgu
  ·exact xgs (hI.k 1 rfl kR)
  ·exact xgt (hI.e mm3 (hd 3)) (hI.e mm4 (hd 4))
  ·have zt5:=hI.e mm5 (hd 5)
   have cc0:=hI.cell o1 oM nom;exact xgu
  ·exact xgs (hI.k 0 rfl kR)
  ·exact xgs (hI.e mm7 (hd 7))
  ·exact xgs (hI.e mm8 (hd 8))
  ·have zt9:=hI.e mm9 (hd 9)
   have cc0:=hI.cell x2 oM nom;exact xgu
  ·exact xgs (hI.k 2 rfl kR)
  ·exact xgt (hI.e yD (hd 10)) (hI.e zAB (hd 11))
  ·have zt12:=hI.e zAh (hd 12)
   have cc0:=hI.cell o2 oM nom;exact xgu
  ·have zt:=hI.k 7 rfl kR
   have cc0:=hI.cell d1 oM nom;have cc1:=hI.cell d2 oM nom;exact xgu
 intro w10 hlw10 hbw10 holdw10 T hT;simp only[Fin,E,EI,VP,VSl,VN,xgg,xgh,xgi,xgj]at hT;subst hT;simp only[xgl,xgk];go_wp2_with fail
 refine(zGO _ k _ (hk.ext (lx0 hbw10))).mono ?_;rintro e w11 ⟨⟨u,rfl⟩,hbq⟩;have hbz:=nx hbw10 hbq;have bx:=bx.below hbz;have bk:=bk.below hbz;have hO:=hO.trans (zM.of _ hbz);have hs:=hs.below hbz;have hu:=hu.below hbz;have hv:=hv.below hbz;have hk:=hk.ext (lx hbz);clear o1 o2 x1 x2 x3 x4 x5 x6 d1 d2 d3 d4 hbz hbq hg1;go_upto_region 3 with(fail)
 obtain⟨g1,k1,eg1,o1⟩:=hv.at_ hj;obtain⟨g2,k2',eg2,o2⟩:=hv.at_ hi;obtain⟨rfl,rfl⟩:gi=g1/\ic=k1:=by simpa using eg1
 obtain⟨rfl,rfl⟩:gi=g2/\ic=k2':=by simpa using eg2
 have hg1:=World.block_lt_of_cell? _ _ o1;clear eg1 eg2;obtain⟨x1,x2,x3,x4,x5,x6⟩:=bx.three;obtain⟨d1,d2,d3,d4⟩:=bk.two;have lbx:=bx.lt;have lk:=bk.lt;refine zB 16 rfl (RI w11 (w11.heap.size) _ 51
   [VP 0 40 bw 0,VP 1 41 bw 0,VP 2 42 bw 2,VSl 3 43 gi n ic,VN 4 44 j,VP 5 45 gi j,E 6 46 (.slice none 0 0),VP 7 47 bw 0,VP 8 48 bw 0,VP 9 49 bw 2,VSl 10 50 gi n ic,VN 11 51 i,VP 12 52 gi i,E 13 53 (.slice none 0 0),E 14 54 (.agg #[.bool kn,.slice ka kl kc]),EI 15 55 (-k)] [] []) kR RI.start (RI.fin kR ?fin3) ?steps3
 case steps3=>
  refine⟨?_,?_,?_,?_,?_,?_,?_,?_,?_,?_,?_,?_,?_,?_,?_,?_,trivial⟩<;>(intro L T wS hL hd hcl hI K hK;try refine zA rfl ?_)
  ·exact xgs (hI.k 0 rfl kR)
  ·exact xgs (hI.e mm0 (hd 0))
  ·exact xgs (hI.e mm1 (hd 1))
  ·have zt2:=hI.e mm2 (hd 2)
   have cc0:=hI.cell x3 oM nom;exact xgu
  ·exact xgs (hI.k 2 rfl kR)
  ·exact xgt (hI.e mm3 (hd 3)) (hI.e mm4 (hd 4))
  ·have zt5:=hI.e mm5 (hd 5)
   have cc0:=hI.cell o1 oM nom;exact xgu
  ·exact xgs (hI.k 0 rfl kR)
  ·exact xgs (hI.e mm7 (hd 7))
  ·exact xgs (hI.e mm8 (hd 8))
  ·have zt9:=hI.e mm9 (hd 9)
   have cc0:=hI.cell x3 oM nom;exact xgu
  ·exact xgs (hI.k 1 rfl kR)
  ·exact xgt (hI.e yD (hd 10)) (hI.e zAB (hd 11))
  ·have zt12:=hI.e zAh (hd 12)
   have cc0:=hI.cell o2 oM nom;exact xgu
  ·have zt:=hI.k 7 rfl kR
   have cc0:=hI.cell d1 oM nom;have cc1:=hI.cell d2 oM nom;exact xgu
  ·have zt14:=hI.e zBF (hd 14)
   go_simp;refine(jR _ k _ (hk.ext hI.lext).weak HK.out).mono ?_;exact xgo
 intro w12 hlw12 hbw12 holdw12 T hT;simp only[Fin,E,EI,VP,VSl,VN,xgg,xgh,xgi,xgj]at hT;obtain⟨vc15,hc15,rfl⟩:=hT;simp only[xgl,xgk];obtain⟨pn,pa,pl,pc,px,rfl,-⟩:=id hc15;go_wp2_with fail
 refine(zGO _ (-k) _ hc15).mono ?_;rintro e w13 ⟨⟨u,rfl⟩,hbq⟩;have hbz:=nx hbw12 hbq;have bx:=bx.below hbz;have bk:=bk.below hbz;have hO:=hO.trans (zM.of _ hbz);have hs:=hs.below hbz;have hu:=hu.below hbz;have hv:=hv.below hbz;go_wp2;exact bodyPost_end (results_none rfl _ _ _) rfl ⟨⟨_,rfl⟩,hO,bx,hs,hu,hv⟩
theorem zLg(bw:Nat)(Ah Au Av mv:Value)(n Cs i j:Nat)(bss:List Nat)(S:Nat->Nat->Int)(m0 m1 m2 m3:Int)(w:World)(hbw:Blk w bw tHW #[Ah,Au,Av])(hs:Wri w Ah n Cs bss S)(hu:zBa w Au n)(hv:zBa w Av n)(hi:i<n)(hj:j<n)(hij:i≠j)(hm:M4V w mv m0 m1 m2 m3)
  (hn:n<=1000000) (hCs:Cs<=1000000) (hS:zMr Cs (S i) (S j) m0 m1 m2 m3) (hms:Sm m0/\Sm m1/\Sm m2/\Sm m3):
  Calls Tryz.prog 126 #[.pointer (some ⟨bw,0,none⟩),.int .i64 i,.int .i64 j,mv] w fun e w'=>(∃u,e= .returned u)/\zM (fun b=>b∈bss) w w'/\Blk w' bw tHW #[Ah,Au,Av]∧
   Wri w' Ah n Cs bss (zZ S i j m0 m1 m2 m3)/\zBa w' Au n/\zBa w' Av n:=by
 obtain⟨so,sn,sc,rfl,s1,s2,s3,-⟩:=id (zJ.rows hs);have HS:=xgv hS;have HK:=xgv hms;obtain⟨n0,a0,l0,c0,n1,a1,l1,c1,n2,a2,l2,c2,n3,a3,l3,c3,rfl,j0,j1,j2,j3⟩:=id hm;have HM0:=xgv (And.intro j0 (And.intro j1 (And.intro j2 j3)));clear hS hms hm j0 j1 j2 j3;have e1:n=sn:=by rw[<-s1];simp[genM]
 subst e1;clear s1;obtain⟨gs,_,rfl,-⟩:=zJ.at_ hs (i:=i) (by rw[hs.len];exact hi);obtain⟨gt,tc,-,rfl,-⟩:=id hu;obtain⟨gi,ic,-,rfl,-⟩:=id hv;have hlt:∀b,b∈bss->b<w.heap.size:=fun b hb=>(hs.blk hb).elim fun r hr=>hr.lt
 go_enter Tryz.func126,Tryz.ntmps126;go_upto_region 1 with(fail)
 refine zC ?_;intro W0 hW0;obtain⟨hB0,bm,hs0⟩:=zN hW0;have bx:=hbw.below hB0;have hs:=hs.below hB0;have hu:=hu.below hB0;have hv:=hv.below hB0;have hO:=zM.of (fun b=>b∈bss) hB0;have hl2:=zCD m3 (-m2);have hl3:=zCD (-m1) m0;have hl4:=zFq m3 (-m2) (-m1) m0;clear hW0 hbw;obtain⟨g1,bi,eg1,hg1,hbi1,hb1,o1,-⟩:=zJ.at_ hs (i:=i) (by rw[hs.len];exact hi);obtain⟨g2,bj,eg2,hg2,hbj1,hb2,o2,-⟩:=zJ.at_ hs (i:=j) (by rw[hs.len];exact hj);obtain rfl:gs=g1:=by injection eg1 with eg1;injection eg1
 obtain rfl:gs=g2:=by injection eg2 with eg2;injection eg2
 clear eg1 eg2 hb1 hb2;have hm1:=xgd hbi1;have hm2:=xgd hbj1;obtain⟨ri,hri⟩:=hs.blk hm1;obtain⟨rj,hrj⟩:=hs.blk hm2;obtain⟨x1,x2,x3,x4,x5,x6⟩:=bx.three;obtain⟨k0,k1,k2,k3,k4,k5,k6,k7⟩:=bm.eight;have lbx:=bx.lt;have lm:=bm.lt;have j0:=HM0.out.1.ext hO.lext;have j1:=HM0.out.2.1.ext hO.lext;have j2:=HM0.out.2.2.1.ext hO.lext;have j3:=HM0.out.2.2.2.ext hO.lext;refine zB 15 rfl (RI W0 (W0.heap.size) _ 51
   [VP 0 8 bw 0,VP 1 9 bw 0,VP 2 10 bw 0,VSl 3 11 gs n sc,VN 4 12 i,VP 5 13 gs i,VSl 6 14 bi Cs Cs,VP 7 15 bw 0,VP 8 16 bw 0,VP 9 17 bw 0,VSl 10 18 gs n sc,VN 11 19 j,VP 12 20 gs j,VSl 13 21 bj Cs Cs,E 14 22 (.agg #[.bool n0,.slice a0 l0 c0,.bool n1,.slice a1 l1 c1,.bool n2,.slice a2 l2 c2,.bool n3,.slice a3 l3 c3])] [] []) kR RI.start (RI.fin kR ?fin4) ?steps4
 case steps4=>
  refine⟨?_,?_,?_,?_,?_,?_,?_,?_,?_,?_,?_,?_,?_,?_,?_,trivial⟩<;>(intro L T wS hL hd hcl hI K hK;try refine zA rfl ?_)
  ·exact xgs (hI.k 0 rfl kR)
  ·exact xgs (hI.e mm0 (hd 0))
  ·exact xgs (hI.e mm1 (hd 1))
  ·have zt2:=hI.e mm2 (hd 2)
   have cc0:=hI.cell x1 oM nom;exact xgu
  ·exact xgs (hI.k 1 rfl kR)
  ·exact xgt (hI.e mm3 (hd 3)) (hI.e mm4 (hd 4))
  ·have zt5:=hI.e mm5 (hd 5)
   have cc0:=hI.cell o1 oM nom;exact xgu
  ·exact xgs (hI.k 0 rfl kR)
  ·exact xgs (hI.e mm7 (hd 7))
  ·exact xgs (hI.e mm8 (hd 8))
  ·have zt9:=hI.e mm9 (hd 9)
   have cc0:=hI.cell x1 oM nom;exact xgu
  ·exact xgs (hI.k 2 rfl kR)
  ·exact xgt (hI.e yD (hd 10)) (hI.e zAB (hd 11))
  ·have zt12:=hI.e zAh (hd 12)
   have cc0:=hI.cell o2 oM nom;exact xgu
  ·have zt:=hI.k 7 rfl kR
   have cc0:=hI.cell k0 oM nom;have cc1:=hI.cell k1 oM nom;have cc2:=hI.cell k2 oM nom;have cc3:=hI.cell k3 oM nom;have cc4:=hI.cell k4 oM nom;have cc5:=hI.cell k5 oM nom;have cc6:=hI.cell k6 oM nom;have cc7:=hI.cell k7 oM nom;exact xgu
 intro w8 hlw8 hbw8 holdw8 T hT;simp only[Fin,E,EI,VP,VSl,VN,xgg,xgh,xgi,xgj]at hT;subst hT;simp only[xgl,xgk];have hH8:=hs.below hbw8;have hri8:=hri.below hbw8;have hrj8:=hrj.below hbw8;clear o1 o2 x1 x2 x3 x4 x5 x6 k0 k1 k2 k3 k4 k5 k6 k7;go_wp2_with fail
 refine(zCp hH8 hi hj hij hbi1 hbj1 ⟨_,_,_,_,_,_,_,_,_,_,_,_,_,_,_,_,rfl,j0.ext (lx0 hbw8),j1.ext (lx0 hbw8),j2.ext (lx0 hbw8),j3.ext (lx0 hbw8)⟩ hCs HS.out HK.out).mono ?_;rintro e w9 ⟨⟨u,rfl⟩,ho,hH9⟩;have hk1:w.heap.size≠bi:=by have:=hlt bi (by simp[hm1]);omega
 have hk2:w.heap.size≠bj:=by have:=hlt bj (by simp[hm2]);omega
 have bx:=(bx.below hbw8).row2 ho hri8 hrj8 dE;have bm:Blk w9 w.heap.size 160 #[.bool n0,.slice a0 l0 c0,.bool n1,.slice a1 l1 c1,.bool n2,.slice a2 l2 c2,.bool n3,.slice a3 l3 c3]:=(bm.below hbw8).row2 ho hri8 hrj8 dE;have hO:=(hO.trans (zM.of _ hbw8)).trans (⟨ho.bel,ho.lext,fun k hk hn=>ho.old k hk (by simp;exact⟨fun e=>hn (by rw[e];simp[hm1]),fun e=>hn (by rw[e];simp[hm2])⟩)⟩:zM _ w8 w9);have hu:=(hu.below hbw8).row2 ho hri8 hrj8;have hv:=(hv.below hbw8).row2 ho hri8 hrj8;have hs:=hH9;clear ho hri8 hri hrj8 hrj hH8 hH9 hm1 hm2 hk1 hk2 hbi1 hbj1;go_upto_region 2 with(fail)
 obtain⟨g1,kq1,eg1,o1⟩:=hu.at_ hi;obtain⟨g2,kq2,eg2,o2⟩:=hu.at_ hj;obtain⟨rfl,rfl⟩:gt=g1/\tc=kq1:=by simpa using eg1
 obtain⟨rfl,rfl⟩:gt=g2/\tc=kq2:=by simpa using eg2
 have hg1:=World.block_lt_of_cell? _ _ o1;clear eg1 eg2;obtain⟨x1,x2,x3,x4,x5,x6⟩:=bx.three;obtain⟨k0,k1,k2,k3,k4,k5,k6,k7⟩:=bm.eight;have bk:=bm;have j0:=HM0.out.1.ext hO.lext;have j1:=HM0.out.2.1.ext hO.lext;have j2:=HM0.out.2.2.1.ext hO.lext;have j3:=HM0.out.2.2.2.ext hO.lext;have lbx:=bx.lt;have lk:=bk.lt;refine zB 15 rfl (RI w9 (w9.heap.size) _ 51
   [VP 0 24 bw 0,VP 1 25 bw 0,VP 2 26 bw 1,VSl 3 27 gt n tc,VN 4 28 i,VP 5 29 gt i,E 6 30 (.slice none 0 0),VP 7 31 bw 0,VP 8 32 bw 0,VP 9 33 bw 1,VSl 10 34 gt n tc,VN 11 35 j,VP 12 36 gt j,E 13 37 (.slice none 0 0),E 14 38 (.agg #[.bool n0,.slice a0 l0 c0,.bool n1,.slice a1 l1 c1,.bool n2,.slice a2 l2 c2,.bool n3,.slice a3 l3 c3])] [] []) kR RI.start (RI.fin kR ?fin5) ?steps5
 case steps5=>
  refine⟨?_,?_,?_,?_,?_,?_,?_,?_,?_,?_,?_,?_,?_,?_,?_,trivial⟩<;>(intro L T wS hL hd hcl hI K hK;try refine zA rfl ?_)
  ·exact xgs (hI.k 0 rfl kR)
  ·exact xgs (hI.e mm0 (hd 0))
  ·exact xgs (hI.e mm1 (hd 1))
  ·have zt2:=hI.e mm2 (hd 2)
   have cc0:=hI.cell x2 oM nom;exact xgu
  ·exact xgs (hI.k 1 rfl kR)
  ·exact xgt (hI.e mm3 (hd 3)) (hI.e mm4 (hd 4))
  ·have zt5:=hI.e mm5 (hd 5)
   have cc0:=hI.cell o1 oM nom;exact xgu
  ·exact xgs (hI.k 0 rfl kR)
  ·exact xgs (hI.e mm7 (hd 7))
  ·exact xgs (hI.e mm8 (hd 8))
  ·have zt9:=hI.e mm9 (hd 9)
   have cc0:=hI.cell x2 oM nom;exact xgu
  ·exact xgs (hI.k 2 rfl kR)
  ·exact xgt (hI.e yD (hd 10)) (hI.e zAB (hd 11))
  ·have zt12:=hI.e zAh (hd 12)
   have cc0:=hI.cell o2 oM nom;exact xgu
  ·have zt:=hI.k 7 rfl kR
   have cc0:=hI.cell k0 oM nom;have cc1:=hI.cell k1 oM nom;have cc2:=hI.cell k2 oM nom;have cc3:=hI.cell k3 oM nom;have cc4:=hI.cell k4 oM nom;have cc5:=hI.cell k5 oM nom;have cc6:=hI.cell k6 oM nom;have cc7:=hI.cell k7 oM nom;exact xgu
 intro w10 hlw10 hbw10 holdw10 T hT;simp only[Fin,E,EI,VP,VSl,VN,xgg,xgh,xgi,xgj]at hT;subst hT;simp only[xgl,xgk];go_wp2_with fail
 refine(zGT _ m0 m1 m2 m3 _ ⟨_,_,_,_,_,_,_,_,_,_,_,_,_,_,_,_,rfl,j0.ext (lx0 hbw10),j1.ext (lx0 hbw10),j2.ext (lx0 hbw10),j3.ext (lx0 hbw10)⟩).mono ?_;rintro e w11 ⟨⟨u,rfl⟩,hbq⟩;have hbz:=nx hbw10 hbq;have bx:=bx.below hbz;have bm:=bm.below hbz;have hO:=hO.trans (zM.of _ hbz);have hs:=hs.below hbz;have hu:=hu.below hbz;have hv:=hv.below hbz;clear o1 o2 x1 x2 x3 x4 x5 x6 k0 k1 k2 k3 k4 k5 k6 k7 hbz hbq hg1 bk j0 j1 j2 j3;go_upto_region 3 with(fail)
 obtain⟨g1,kq1,eg1,o1⟩:=hv.at_ hi;obtain⟨g2,kq2,eg2,o2⟩:=hv.at_ hj;obtain⟨rfl,rfl⟩:gi=g1/\ic=kq1:=by simpa using eg1
 obtain⟨rfl,rfl⟩:gi=g2/\ic=kq2:=by simpa using eg2
 have hg1:=World.block_lt_of_cell? _ _ o1;clear eg1 eg2;obtain⟨x1,x2,x3,x4,x5,x6⟩:=bx.three;obtain⟨k0,k1,k2,k3,k4,k5,k6,k7⟩:=bm.eight;have bk:=bm;have j0:=HM0.out.1.ext hO.lext;have j1:=HM0.out.2.1.ext hO.lext;have j2:=HM0.out.2.2.1.ext hO.lext;have j3:=HM0.out.2.2.2.ext hO.lext;have lbx:=bx.lt;have lk:=bk.lt;refine zB 31 rfl (RI w11 (w11.heap.size) _ 51
   [VP 0 40 bw 0,VP 1 41 bw 0,VP 2 42 bw 2,VSl 3 43 gi n ic,VN 4 44 i,VP 5 45 gi i,E 6 46 (.slice none 0 0),VP 7 47 bw 0,VP 8 48 bw 0,VP 9 49 bw 2,VSl 10 50 gi n ic,VN 11 51 j,VP 12 52 gi j,E 13 53 (.slice none 0 0),VP 14 54 w.heap.size 4,VP 15 55 w.heap.size 6,E 16 56 (.agg #[.bool n3,.slice a3 l3 c3]),VP 17 57 w.heap.size 4,VP 18 58 w.heap.size 4,E 19 59 (.agg #[.bool n2,.slice a2 l2 c2]),EI 20 60 (-m2),⟨21,61,M2V m3 (-m2)⟩,VP 22 62 w.heap.size 0,VP 23 63 w.heap.size 2,E 24 64 (.agg #[.bool n1,.slice a1 l1 c1]),EI 25 65 (-m1),VP 26 66 w.heap.size 0,VP 27 67 w.heap.size 0,E 28 68 (.agg #[.bool n0,.slice a0 l0 c0]),⟨29,69,M2V (-m1) m0⟩,⟨30,70,fun w v=>M4V w v m3 (-m2) (-m1) m0⟩] [] []) kR RI.start (RI.fin kR ?fin6) ?steps6
 case steps6=>
  refine⟨?_,?_,?_,?_,?_,?_,?_,?_,?_,?_,?_,?_,?_,?_,?_,?_,?_,?_,?_,?_,?_,?_,?_,?_,?_,?_,?_,?_,?_,?_,?_,trivial⟩<;>(intro L T wS hL hd hcl hI K hK;try refine zA rfl ?_)
  ·exact xgs (hI.k 0 rfl kR)
  ·exact xgs (hI.e mm0 (hd 0))
  ·exact xgs (hI.e mm1 (hd 1))
  ·have zt2:=hI.e mm2 (hd 2)
   have cc0:=hI.cell x3 oM nom;exact xgu
  ·exact xgs (hI.k 1 rfl kR)
  ·exact xgt (hI.e mm3 (hd 3)) (hI.e mm4 (hd 4))
  ·have zt5:=hI.e mm5 (hd 5)
   have cc0:=hI.cell o1 oM nom;exact xgu
  ·exact xgs (hI.k 0 rfl kR)
  ·exact xgs (hI.e mm7 (hd 7))
  ·exact xgs (hI.e mm8 (hd 8))
  ·have zt9:=hI.e mm9 (hd 9)
   have cc0:=hI.cell x3 oM nom;exact xgu
  ·exact xgs (hI.k 2 rfl kR)
  ·exact xgt (hI.e yD (hd 10)) (hI.e zAB (hd 11))
  ·have zt12:=hI.e zAh (hd 12)
   have cc0:=hI.cell o2 oM nom;exact xgu
  ·exact xgs (hI.k 7 rfl kR)
  ·exact xgs (hI.e zBF (hd 14))
  ·have zt15:=hI.e zCN (hd 15)
   have cc0:=hI.cell k6 oM nom;have cc1:=hI.cell k7 oM nom;exact xgu
  ·exact xgs (hI.k 7 rfl kR)
  ·exact xgs (hI.e zCg (hd 17))
  ·have zt18:=hI.e zCh (hd 18)
   have cc0:=hI.cell k4 oM nom;have cc1:=hI.cell k5 oM nom;exact xgu
  ·have zt19:=hI.e zDW (hd 19)
   go_simp;refine(jR _ m2 _ (j2.ext hI.lext).weak HK.out.2.2.1).mono ?_;exact xgo
  ·have zt16:=hI.e zCf (hd 16)
   obtain⟨v20,zt20,h20⟩:=hI.vi zD6 (hd 20);obtain⟨a16,b16,d16,e16,x16,rfl,y16⟩:=id h20;go_simp;exact hK _ _ (hI.y zEf ⟨_,_,_,_,_,_,_,_,rfl,j3.ext hI.lext,h20⟩)
  ·exact xgs (hI.k 7 rfl kR)
  ·exact xgs (hI.e zEg (hd 22))
  ·have zt23:=hI.e zEh (hd 23)
   have cc0:=hI.cell k2 oM nom;have cc1:=hI.cell k3 oM nom;exact xgu
  ·have zt24:=hI.e zGC (hd 24)
   go_simp;refine(jR _ m1 _ (j1.ext hI.lext).weak HK.out.2.1).mono ?_;exact xgo
  ·exact xgs (hI.k 7 rfl kR)
  ·exact xgs (hI.e zHd (hd 26))
  ·have zt27:=hI.e zGE (hd 27)
   have cc0:=hI.cell k0 oM nom;have cc1:=hI.cell k1 oM nom;exact xgu
  ·obtain⟨v25,zt25,h25⟩:=hI.vi zGD (hd 25)
   have zt28:=hI.e zIS (hd 28);obtain⟨a21,b21,d21,e21,x21,rfl,y21⟩:=id h25;go_simp;exact hK _ _ (hI.y zIT ⟨_,_,_,_,_,_,_,_,rfl,h25,j0.ext hI.lext⟩)
  ·obtain⟨v21,zt21,h21⟩:=hI.v zEf (hd 21)
   obtain⟨v29,zt29,h29⟩:=hI.v zIT (hd 29);obtain⟨p0,p1,p2,p3,p4,p5,p6,p7,rfl,p8,p9⟩:=h21;obtain⟨q0,q1,q2,q3,q4,q5,q6,q7,rfl,q8,q9⟩:=h29;go_simp;exact hK _ _ (hI.y zJD ⟨_,_,_,_,_,_,_,_,_,_,_,_,_,_,_,_,rfl,p8,p9,q8,q9⟩)
 intro w12 hlw12 hbw12 holdw12 T hT;simp only[Fin,E,EI,VP,VSl,VN,xgg,xgh,xgi,xgj]at hT;obtain⟨vc20,hc20,vc21,hc21,vc25,hc25,vc29,hc29,vc30,hc30,rfl⟩:=hT;simp only[xgl,xgk];have hm4:M4V w12 vc30 m3 (-m2) (-m1) m0:=hc30;obtain⟨p0,p1,p2,p3,p4,p5,p6,p7,p8,p9,p10,p11,p12,p13,p14,p15,rfl,-⟩:=id hm4;go_wp2_with fail
 refine(zGT _ m3 (-m2) (-m1) m0 _ hm4).mono ?_;rintro e w13 ⟨⟨u,rfl⟩,hbq⟩;have hbz:=nx hbw12 hbq;have bx:=bx.below hbz;have bm:=bm.below hbz;have hO:=hO.trans (zM.of _ hbz);have hs:=hs.below hbz;have hu:=hu.below hbz;have hv:=hv.below hbz;go_wp2;exact bodyPost_end (results_none rfl _ _ _) rfl ⟨⟨_,rfl⟩,hO,bx,hs,hu,hv⟩
theorem zLh(bw:Nat)(Ah Au Av:Value)(n Cs i:Nat)(bss:List Nat)(FS:Nat->Nat->Int)(w:World)(hbw:Blk w bw tHW #[Ah,Au,Av])(hs:Wri w Ah n Cs bss FS)(hu:zBa w Au n)(hv:zBa w Av n)(hi:i<n)
  (hn:n<=1000000) (hCs:Cs<=1000000) (hS:∀a,a<n->∀b,b<Cs->Sm (FS a b)):
  Calls Tryz.prog 127 #[.pointer (some ⟨bw,0,none⟩),.int .i64 i] w fun e w'=>(∃u,e= .returned u)/\zM (fun b=>b∈bss) w w'/\Blk w' bw tHW #[Ah,Au,Av]∧
   Wri w' Ah n Cs bss (jQ FS i)/\zBa w' Au n/\zBa w' Av n:=by
 obtain⟨so,sn,sc,rfl,s1,s2,s3,-⟩:=id (zJ.rows hs);have HS:=xgv hS;have e1:n=sn:=by rw[<-s1];simp[genM]
 subst e1;clear s1 hS;obtain⟨gs,bi,rfl,hgs,hbi,-,o1,-⟩:=zJ.at_ hs (i:=i) (by rw[hs.len];exact hi);obtain⟨gt,tc,rfl,o2⟩:=hu.at_ hi;obtain⟨gi,ic,rfl,o3⟩:=hv.at_ hi;have hOz:=zM.refl (fun b=>b∈bss) w;obtain⟨x1,x2,x3,x4,x5,x6⟩:=hbw.three;have lbw:=hbw.lt;have hgt:=World.block_lt_of_cell? _ _ o2;have hgi:=World.block_lt_of_cell? _ _ o3;go_enter Tryz.func127,Tryz.ntmps127;go_upto_region 0 with(fail)
 refine zF rfl (RI w (w.heap.size) _ 51
   [VP 0 8 bw 0,VP 1 9 bw 0,VP 2 10 bw 0,VSl 3 11 gs n sc,VN 4 12 i,VP 5 13 gs i,VSl 6 14 bi Cs Cs,VP 7 15 bw 0,VP 8 16 bw 0,VP 9 17 bw 1,VSl 10 18 gt n tc,VN 11 19 i,VP 12 20 gt i,E 13 21 (.slice none 0 0),VP 14 22 bw 0,VP 15 23 bw 0,VP 16 24 bw 2,VSl 17 25 gi n ic,VN 18 26 i,VP 19 27 gi i,E 20 28 (.slice none 0 0),E 21 29 (.agg #[.slice (some ⟨bi,0,none⟩) Cs Cs,.slice none 0 0,.slice none 0 0]),VN 22 30 0] [] []) kR RI.start (RI.fin kR ?fin7) ?steps7
 case steps7=>
  refine⟨?_,?_,?_,?_,?_,?_,?_,?_,?_,?_,?_,?_,?_,?_,?_,?_,?_,?_,?_,?_,?_,?_,?_,trivial⟩<;>(intro L T wS hL hd hcl hI K hK;try refine zA rfl ?_)
  ·exact xgs (hI.k 0 rfl kR)
  ·exact xgs (hI.e mm0 (hd 0))
  ·exact xgs (hI.e mm1 (hd 1))
  ·have zt2:=hI.e mm2 (hd 2)
   have cc0:=hI.cell x1 oM nom;exact xgu
  ·exact xgs (hI.k 1 rfl kR)
  ·exact xgt (hI.e mm3 (hd 3)) (hI.e mm4 (hd 4))
  ·have zt5:=hI.e mm5 (hd 5)
   have cc0:=hI.cell o1 oM nom;exact xgu
  ·exact xgs (hI.k 0 rfl kR)
  ·exact xgs (hI.e mm7 (hd 7))
  ·exact xgs (hI.e mm8 (hd 8))
  ·have zt9:=hI.e mm9 (hd 9)
   have cc0:=hI.cell x2 oM nom;exact xgu
  ·exact xgs (hI.k 1 rfl kR)
  ·exact xgt (hI.e yD (hd 10)) (hI.e zAB (hd 11))
  ·have zt12:=hI.e zAh (hd 12)
   have cc0:=hI.cell o2 oM nom;exact xgu
  ·exact xgs (hI.k 0 rfl kR)
  ·exact xgs (hI.e zBF (hd 14))
  ·exact xgs (hI.e zCN (hd 15))
  ·have zt16:=hI.e zCf (hd 16)
   have cc0:=hI.cell x3 oM nom;exact xgu
  ·exact xgs (hI.k 1 rfl kR)
  ·exact xgt (hI.e zCg (hd 17)) (hI.e zCh (hd 18))
  ·have zt19:=hI.e zDW (hd 19)
   have cc0:=hI.cell o3 oM nom;exact xgu
  ·have zt6:=hI.e mm6 (hd 6)
   exact xgt (hI.e zBv (hd 13)) (hI.e zD6 (hd 20))
  ·go_simp
   exact hK _ _ (hI.y zEg rfl)
 intro w0 hlw0 hbw0 holdw0 T hT;simp only[Fin,E,EI,VP,VSl,VN,xgg,xgh,xgi,xgj]at hT;subst hT;have hOz:=hOz.trans (zM.of _ hbw0);have bx:=hbw.below hbw0;have hs:=hs.below hbw0;have hu:=hu.below hbw0;have hv:=hv.below hbw0;clear o1 o2 o3 x1 x2 x3 x4 x5 x6 hbw hgs hgt hgi;go_wp2;go_loopw [30] (fun mv wr=>∃m:Nat,m<=3/\mv= .int .i64 m/\zM (fun b=>b∈bss) w wr/\Blk wr bw tHW #[.slice (some ⟨gs,0,none⟩) n sc,.slice (some ⟨gt,0,none⟩) n tc,.slice (some ⟨gi,0,none⟩) n ic]∧
  Wri wr (.slice (some ⟨gs,0,none⟩) n sc) n Cs bss (if 0<m then jQ FS i else FS)/\zBa wr (.slice (some ⟨gt,0,none⟩) n tc) n/\zBa wr (.slice (some ⟨gi,0,none⟩) n ic) n) (fun mv _=>3-(intOf mv).toNat)
 case atStart=>exact⟨0,by omega,rfl,hOz,bx,hs,hu,hv⟩
 case round=>
  clear hOz bx hs hu hv;obtain⟨m,hm,rfl,hOz,bx,hs,hu,hv⟩:=hrel;by_cases hm0:m=0
  ·subst hm0
   rw[if_neg oM]at hs;have hmi:=xgd hbi;have hri:=hs.rowAt hi hbi;have hix:=fun W=>zAW 162 3 #[.slice (some ⟨bi,0,none⟩) Cs Cs,.slice none 0 0,.slice none 0 0] 0 0 _ W Tryz.underlying162 rfl oM rfl
   have hst:∀F:Nat->Int,zQ Cs F=zQ Cs (qI (fun t=>-F t) F 0):=fun F=>qA fun t _=>by unfold qI;rw[if_neg oM]
   rw[hst]at hri;clear hst;go_wp2;go_loopw [35] (fun jv wt=>∃j:Nat,j<=Cs/\jv= .int .i64 j/\yQ [bi] wr wt/\(∃G,G=(fun t=>-FS i t)/\qF wt bi (zQ Cs (qI G (FS i) j)))) (fun jv _=>Cs-(intOf jv).toNat)
   case atStart=>exact⟨0,by omega,rfl,yQ.refl _ _,_,rfl,hri⟩
   case round=>
    rename World=>wt
    obtain⟨j,hj,rfl,hO,G,hG,hv'⟩:=hrel;have HG:=xgv (congrFun hG);clear hG;have hOs:=hO.bel.size;by_cases hlt:j<Cs
    ·obtain⟨xs,xa,xl,xc,v1,v2,-,-,hx⟩:=hv'.cell (zW hlt)
     have hyf:qI G (FS i) j j=FS i j:=by unfold qI;rw[if_neg oM]
     rw[hyf]at hx;have hlv:=hv'.lt;go_upto_region 6 with(fail)
     refine zC ?_;intro W6 hW6;obtain⟨hB6,T7,hs6⟩:=zN hW6;obtain⟨d1,d2,d3,d4⟩:=T7.two;have hO:=hO.trans (yQ.of [bi] hB6);have hv':=hv'.below hB6;have hx:=hx.ext (lx hB6);have l7:=T7.lt;clear v1 v2 hW6;have HSJ:=xgv (HS.out i hi j hlt);go_wp2_with fail
     refine(jR _ (FS i j) W6 hx.weak HSJ.out).mono ?_;rintro e w9 ⟨u,rfl,hu,hbw9⟩;obtain⟨pn,pa,pl,pc,px,rfl,hpx⟩:=id hu;have HPX:=xgw hpx;clear hpx;have hv9:=hv'.below hbw9;obtain⟨zs,za,zl,zc,z1,z2,z3,z4,-⟩:=hv9.cell (zW hlt);have hset:=hv9.set (k:=j) (by rw[zE];exact hlt) hu;have hO:=hO.trans (yQ.of [bi] hbw9);go_wp2;go_roundw
     case rel=>
      have hq:(zQ Cs (qI G (FS i) j)).set j (-(FS i j))=zQ Cs (qI G (FS i) (j+1)):=by
       rw[zA8];exact qA fun t _=>by
        unfold qI;by_cases h2:t=j
        ·subst h2
         rw[if_pos rfl,if_pos oM,HG.out]
        ·rw[if_neg h2]
         by_cases h1:t<j
         ·rw[if_pos h1,if_pos oM]
         ·rw[if_neg h1,if_neg oM]
      rw[hq]at hset;refine⟨_,_,_,_,_,_,_,_,_,_,_,_,_,?_,rfl⟩;exact⟨j+1,by omega,by simp,hO.trans ⟨zP (zP (Below.refl _ _) (Nat.zero_le _) _ _) (Nat.zero_le _) _ _,hset.2,fun i _ hi=>qH _ _ _ _ _ _ _ (by simpa using hi)⟩,_,funext HG.out,hset.1⟩
     case measure=>simp[intOf];omega
    ·obtain rfl:j=Cs:=by omega
     have hq:zQ j (qI G (FS i) j)=zQ j (fun t=>-FS i t):=qA fun t ht=>by unfold qI;rw[if_pos ht];exact HG.out t
     rw[hq]at hv';go_wp2;go_roundw
     case measure=>simp[intOf]
     have hri0:=hs.rowAt hi hbi;exact⟨1,by omega,by simp,hOz.trans ⟨hO.bel,hO.lext,fun k hk hn=>hO.old k hk (by simp;rintro rfl;exact hn (id hmi))⟩,bx.row hO hri0 dE,by simpa using hs.negRow hi hbi hO hv',hu.row hO hri0,hv.row hO hri0⟩
  ·by_cases hm1:m=1
   ·subst hm1
    rw[if_pos oM]at hs;have hix:=fun W=>zAW 162 3 #[.slice (some ⟨bi,0,none⟩) Cs Cs,.slice none 0 0,.slice none 0 0] 1 1 _ W Tryz.underlying162 rfl oM rfl
    go_wp2;go_loopw [35] (fun jv wt=>jv= .int .i64 0/\wt=wr) (fun _ _=>0)
    case atStart=>exact⟨rfl,rfl⟩
    case round=>
     rename World=>wt
     obtain⟨rfl,hwt⟩:=hrel;have hwt:=hwt.symm;subst hwt;go_wp2;go_roundw
     case measure=>simp[intOf]
     exact⟨2,by omega,by simp,hOz,bx,by simpa using hs,hu,hv⟩
   ·by_cases hm2:m=2
    ·subst hm2
     rw[if_pos oM]at hs;have hix:=fun W=>zAW 162 3 #[.slice (some ⟨bi,0,none⟩) Cs Cs,.slice none 0 0,.slice none 0 0] 2 2 _ W Tryz.underlying162 rfl oM rfl
     go_wp2;go_loopw [35] (fun jv wt=>jv= .int .i64 0/\wt=wr) (fun _ _=>0)
     case atStart=>exact⟨rfl,rfl⟩
     case round=>
      rename World=>wt
      obtain⟨rfl,hwt⟩:=hrel;have hwt:=hwt.symm;subst hwt;go_wp2;go_roundw
      case measure=>simp[intOf]
      exact⟨3,by omega,by simp,hOz,bx,by simpa using hs,hu,hv⟩
    ·obtain rfl:m=3:=by omega
     rw[if_pos oM]at hs;go_wp2;exact bodyPost_end (results_none rfl _ _ _) rfl ⟨⟨_,rfl⟩,hOz,bx,hs,hu,hv⟩
end Go.Proofs.YtgnmdddaiefooaaGreat
