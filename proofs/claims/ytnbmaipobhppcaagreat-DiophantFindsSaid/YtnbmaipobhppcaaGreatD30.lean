/- torsionref12: Start, Floor. torsionref12.Reduce. The product of a row of digits and a matrix of digits stays small. torsionref05: Add, Sub. The arguments of torsionlaw13's statements, opened. Arguments of torsionlaw14's statements, opened. -/
import Derived.ChangeArms
import Derived.ProofKit
import Derived.OpenShut
import Derived.Test.YtnbmaipobhppcaaGreatD08
import Derived.Test.YtnbmaipobhppcaaGreatD12
import Derived.Test.YtnbmaipobhppcaaGreatD20
import Derived.Test.YtnbmaipobhppcaaGreatD22
import Derived.Test.YtnbmaipobhppcaaGreatD23
import Derived.Test.YtnbmaipobhppcaaGreatD26
import Derived.Test.YtnbmaipobhppcaaGreatD29
set_option linter.unusedVariables false
set_option linter.unusedSimpArgs false
set_option linter.unusedSectionVars false
set_option maxHeartbeats 16000000
set_option maxRecDepth 100000
namespace Go.Proofs.YtnbmaipobhppcaaGreat
open Go.RowKit
structure zO3(n0 R C:Nat)(S T V:Nat->Nat->Int)(w:World)(v:Value):Prop where
 ex:∃so sc uo uc vo vc bs bu bv,v= .agg #[.int .i64 R,.int .i64 C,.slice so R sc,.int .i64 R,.int .i64 R,.slice uo R uc,.int .i64 R,.int .i64 R,.slice vo R vc]∧
  Wri w (.slice so R sc) R C bs S/\Wri w (.slice uo R uc) R R bu T/\Wri w (.slice vo R vc) R R bv V/\(∀b,Z3 (.slice so R sc) (.slice uo R uc) (.slice vo R vc) bs bu bv b->n0<=b)∧
  Ap (.slice so R sc) bs (.slice uo R uc) bu/\Ap (.slice so R sc) bs (.slice vo R vc) bv/\Ap (.slice uo R uc) bu (.slice vo R vc) bv
theorem RG.three{W:World}{T0:Array Value}{vs:List VS}{L:Array Bool}{T:Array Value}{w:World}{k1 k2 k3 s1 s2 s3 R C:Nat}{F1 F2 F3:Nat->Nat->Int}
  (h:RG W T0 vs [⟨k1,s1,R,C,F1⟩,⟨k2,s2,R,R,F2⟩,⟨k3,s3,R,R,F3⟩] L T w) (o1:k1<k2) (o2:k2<k3) (l1:L[k1]?=some true) (l2:L[k2]?=some true) (l3:L[k3]?=some true):
  ∃so sc uo uc vo vc,T[s1]?=some (.agg #[.int .i64 R,.int .i64 C,.slice so R sc])/\T[s2]?=some (.agg #[.int .i64 R,.int .i64 R,.slice uo R uc])/\T[s3]?=some (.agg #[.int .i64 R,.int .i64 R,.slice vo R vc])∧
   zO3 W.heap.size R C F1 F2 F3 w (.agg #[.int .i64 R,.int .i64 C,.slice so R sc,.int .i64 R,.int .i64 R,.slice uo R uc,.int .i64 R,.int .i64 R,.slice vo R vc]):=by
 obtain⟨bot,top,g1,g2⟩:=h.gh;have M1:(⟨k1,s1,R,C,F1⟩:MS)∈ [(⟨k1,s1,R,C,F1⟩:MS),⟨k2,s2,R,R,F2⟩,⟨k3,s3,R,R,F3⟩]:=by simp
 have M2:(⟨k2,s2,R,R,F2⟩:MS)∈ [(⟨k1,s1,R,C,F1⟩:MS),⟨k2,s2,R,R,F2⟩,⟨k3,s3,R,R,F3⟩]:=by simp
 have M3:(⟨k3,s3,R,R,F3⟩:MS)∈ [(⟨k1,s1,R,C,F1⟩:MS),⟨k2,s2,R,R,F2⟩,⟨k3,s3,R,R,F3⟩]:=by simp
 obtain⟨a1,a2,_,a3,so,sc,bS,rfl,a5,a6⟩:=g1 _ M1 l1;obtain⟨b1,b2,_,b3,uo,uc,bU,rfl,b5,b6⟩:=g1 _ M2 l2;obtain⟨c1,c2,_,c3,vo,vc,bV,rfl,c5,c6⟩:=g1 _ M3 l3;have r12:=g2 _ M1 _ M2 o1 l1 l2;have r13:=g2 _ M1 _ M3 (by dsimp only;omega) l1 l3;have r23:=g2 _ M2 _ M3 (by dsimp only;omega) l2 l3;refine⟨so,sc,uo,uc,vo,vc,a3,b3,c3,⟨so,sc,uo,uc,vo,vc,bS,bU,bV,rfl,a5,b5,c5,?_,yZ a6 b6 r12,yZ a6 c6 r13,yZ b6 c6 r23⟩⟩;rintro b (hb|hb|hb)
 ·exact Nat.le_trans a1 (a6 b hb).1
 ·exact Nat.le_trans b1 (b6 b hb).1
 ·exact Nat.le_trans c1 (c6 b hb).1
structure zQ6(n0 R C:Nat)(S T V:Nat->Nat->Int)(w:World)(v:Value):Prop where
 ex:∃bw AM AU AV bm bu bv,v= .pointer (some ⟨bw,0,none⟩)/\n0<=bw/\K9 w bw AM AU AV R C bm bu bv S T V/\∀b,Z3 AM AU AV bm bu bv b->n0<=b
theorem zEq.row{w:World}{base:Nat}{v:Value}{zs:List Int}{g:Nat}(h:zEq w base v zs)(hg:v.ownBlock=some g):
  ∃cap,v= .slice (some ⟨g,0,none⟩) zs.length cap/\zs.length<=cap/\cap<=9223372036854775807/\base<=g/\qC w g zs:=by
 obtain⟨cells,⟨h0,h1⟩,h2⟩:=h;rcases h1 with⟨rfl,hn⟩|⟨g',cap,cur,rfl,e1,e2,e3,e4,e5,e6⟩
 ·cases hg
 ·injection hg with hg
  subst hg;refine⟨cap,rfl,e3,e4,e1,cur,e2,fun k z hk=>?_⟩;obtain⟨s,a,l,c,q1,q2,q3⟩:=h2 k z hk;have hk':k<zs.length:=(xge.1 hk).1;rw[<-e6,List.getElem?_take_of_lt oM]at q1 q2;exact⟨s,a,l,c,by simpa using q1,by simpa using q2,q3⟩
theorem zLi(w:World){base:Nat}(hb:base<=w.heap.size):zEq (w.alloc (.cells #[] tI)) base (.slice (some ⟨w.heap.size,0,none⟩) 0 0) []:=
 ⟨[],World.ownsRow_made w #[] 0 hb (Nat.zero_le _) rfl,fun k z h=>by simp at h⟩
theorem zEq.onlyS{w w':World}{base:Nat}{v:Value}{zs:List Int}{S:List Nat}(h:zEq w base v zs)(ho:yC S w w')(hA:∀g,v.ownBlock=some g->g ∉ S):zEq w' base v zs:=by
 obtain⟨cells,h1,h2⟩:=h;refine⟨cells,⟨h1.1,?_⟩,zBR.ext h2 ho.lext⟩;rcases h1.2 with h3|⟨g,cap,cur,e1,e2,e3,e4⟩
 ·exact .inl h3
 ·exact .inr ⟨g,cap,cur,e1,e2,(ho.old g (Array.getElem?_eq_some_iff.1 e3).1 (hA g (by rw[e1];rfl))).trans e3,e4⟩
theorem zMj{R C:Nat}{M:List (List Int)}{x:Nat->Int}(hA:leM 9 R C (ent M))(hx:∀b,(x b).natAbs<=9){b:Nat}(hb:b<C){m:Nat}(hm:m<=R):(zCj [zM R x] M m 0 b).natAbs<=m*81:=by
 unfold zCj;rw[zCL];refine zEm fun t ht=>?_
 rw[zAU (i:=0) (j:=t) rfl (zO oM),Int.natAbs_mul];exact Nat.mul_le_mul (hx t) (hA t oM b hb)
theorem zPO{R C:Nat}{M:List (List Int)}{x:Nat->Int}(hR:R<=4)(hA:leM 9 R C (ent M))(hx:∀b,(x b).natAbs<=9):zCt [zM R x] M 1 R C:=by
 intro i hi j hj k hk;obtain rfl:i=0:=by omega
 have e:ent [zM R x] 0 k=x k:=zAU rfl (zO hk);rw[e];have h1:=hx k;have h2:=hA k hk j hj;have h3:(x k*ent M k j).natAbs<=81:=by rw[Int.natAbs_mul];exact Nat.mul_le_mul h1 h2
 have h4:=zMj hA hx hj (m:=k) oM;exact⟨zHN (zDw (Nat.le_trans h1 dE)),zHN (zDw (Nat.le_trans h2 dE)),zHN (zDw (Nat.le_trans h3 dE)),zHN (zDw (Nat.le_trans (show _<=1000 by omega) dE))⟩
theorem yP.keep3s{w:World}{v:Value}{R C:Int}{M:List (List Int)}{b:Nat}{cs:Array Value}(h:yP w v R C M)(hb:Blk w b 28 cs)(x y z:Value):yP (((w.setCell ⟨b,0,none⟩ x).setCell ⟨b,1,none⟩ y).setCell ⟨b,2,none⟩ z) v R C M:=by
 obtain⟨A,rfl,h⟩:=h;exact⟨A,rfl,h.off hb dE dE (fun k hk=>yN _ _ k _ _ _ hk) (hb.lext3 dE _ _ _)⟩
theorem zLB(v1 v2:Value)(R C:Nat)(M M2:List (List Int))(w:World)(h:yP w v1 R C M)(h2:yP w v2 R C M2)(hF:jK R C M)(hF2:jK R C M2)(hR:R<=1000000)(hC:C<=1000000)(hS:∀r∈M,∀z∈r,Sm z)(hS2:∀r∈M2,∀z∈r,Sm z):
  Calls Tryz.prog 22 #[v1,v2] w fun e w'=>∃v,e= .returned v/\zJy R C (zX R C (fun i j=>ent M i j+ent M2 i j)) w' v/\Below w.heap.size w w':=by
 obtain⟨A,rfl,h⟩:=h;obtain⟨A2,rfl,h2⟩:=h2;obtain⟨ao,n,cap,rfl,e2,e3,e4,-⟩:=id h;obtain⟨bo,n2,cap2,rfl,g2,g3,g4,-⟩:=id h2;have HX:=xgw e2;have HX2:=xgw g2;have HS:=xgv hS;have HS2:=xgv hS2;have HF:=xgv hF;have HF2:=xgv hF2;obtain rfl:n=R:=by rw[<-e2,hF.1]
 obtain rfl:n2=n:=by rw[<-g2,hF2.1]
 clear e2 g2 hS hS2 hF hF2;obtain⟨f,hf⟩:∃f:Nat->Nat->Int,(fun i j=>ent M i j+ent M2 i j)=f:=⟨_,rfl⟩;rw[hf];have hfe:∀i j,f i j=ent M i j+ent M2 i j:=fun i j=>by rw[<-hf]
 clear hf;have HFE:=xgv hfe;clear hfe;go_enter Tryz.func22,Tryz.ntmps22;go_upto_region 1 with(fail)
 refine zB ?_;intro W0 hW0;obtain⟨hB0,bx1,bx2,br,hs0⟩:=yG hW0;obtain⟨c1,c2,c3,c4,c5,c6⟩:=bx1.three;obtain⟨d1,d2,d3,d4,d5,d6⟩:=bx2.three;go_wp2_with fail
 refine(zA4 n2 C W0 hR hC).mono ?_;rintro e w2 ⟨u,bs,rfl,⟨hbl,A2,rfl,ho⟩,hb2⟩;obtain⟨oo,on,oc,rfl,-,-,-,-⟩:=id ho.rows;have hlts:=ho.lts;go_upto_region 4 with(fail)
 refine zB ?_;intro W3 hW3;obtain⟨hB3,T5,hs3⟩:=zK hW3;have bx1:=(bx1.below hb2).below hB3;have bx2:=(bx2.below hb2).below hB3;have br:=(br.below hb2).below hB3;have ho:=ho.below hB3;rw[zBd n2 C f]at ho;have hBt:=nx (nx hB0 hb2) hB3;have q2:=hb2.size;clear hW3 hW0 c1 c2 c3 c4 c5 c6 d1 d2 d3 d4 d5 d6;go_wp2;go_loopw [7] (fun iv wr=>∃i:Nat,i<=n2/\iv= .int .i64 i/\Below w.heap.size w wr/\Blk wr w.heap.size 28 #[.int .i64 n2,.int .i64 C,.slice ao n2 cap]/\Blk wr (w.heap.size+1) 28 #[.int .i64 n2,.int .i64 C,.slice bo n2 cap2]∧
  Blk wr (w.heap.size+1+1) 28 #[.int .i64 0,.int .i64 0,.slice none 0 0]/\Blk wr w2.heap.size 28 #[.int .i64 n2,.int .i64 C,.slice oo on oc]/\zS wr W0.heap.size (.slice oo on oc) C bs (zX n2 C (zBc f i 0))) (fun iv _=>n2-(intOf iv).toNat)
 case atStart=>exact⟨0,by omega,rfl,hBt,bx1,bx2,br,T5,ho⟩
 case round=>
  obtain⟨i,hi,rfl,hb,bx1,bx2,br,T5,ho⟩:=hrel;obtain⟨c1,c2,c3,c4,c5,c6⟩:=bx1.three;by_cases hlt:i<n2
  ·go_wp2
   clear c1 c2 c3 c4 c5 c6;go_loopw [8] (fun jv wr=>∃j:Nat,j<=C/\jv= .int .i64 j/\Below w.heap.size w wr/\Blk wr w.heap.size 28 #[.int .i64 n2,.int .i64 C,.slice ao n2 cap]/\Blk wr (w.heap.size+1) 28 #[.int .i64 n2,.int .i64 C,.slice bo n2 cap2]∧
    Blk wr (w.heap.size+1+1) 28 #[.int .i64 0,.int .i64 0,.slice none 0 0]/\Blk wr w2.heap.size 28 #[.int .i64 n2,.int .i64 C,.slice oo on oc]/\zS wr W0.heap.size (.slice oo on oc) C bs (zX n2 C (zBc f i j))) (fun jv _=>C-(intOf jv).toNat)
   case atStart=>exact⟨0,by omega,rfl,hb,bx1,bx2,br,T5,ho⟩
   case round=>
    obtain⟨j,hj,rfl,hb,bx1,bx2,br,T5,ho⟩:=hrel;obtain⟨c1,c2,c3,c4,c5,c6⟩:=bx1.three;by_cases hjc:j<C
    ·obtain⟨b,ra,rn,rc,zs,rfl,hbl1,hz,p1,hv⟩:=(h.below hb).row (k:=i) (by rw[HX.out];exact hlt)
     have hzl:=HF.out.2 zs (xgd hz);have hvl:=hv.len;obtain rfl:rn=C:=by omega
     obtain⟨b',z,s,a,l,c,rfl,hbl',hzk,q1,q2',hzv⟩:=hv.cell (k:=j) oM;have hent:=xgw (zAU hz hzk);have SZ:qF (Sm z):=⟨HS.out _ (xgd hz) _ (xgd hzk)⟩;clear hz hzk hzl;obtain⟨t,ta,tn,tc,zs2,rfl,hbl3,hz2,p2,hv2⟩:=(h2.below hb).row (k:=i) (by rw[HX2.out];exact hlt);have hzl2:=HF2.out.2 zs2 (xgd hz2);have hvl2:=hv2.len;obtain rfl:tn=rn:=by omega
     obtain⟨t',y,s2,a2,l2,c2',rfl,hbl4,hzk2,q3,q4,hyv⟩:=hv2.cell (k:=j) oM;have hent2:=xgw (zAU hz2 hzk2);have SY:qF (Sm y):=⟨HS2.out _ (xgd hz2) _ (xgd hzk2)⟩;clear hz2 hzk2 hzl2;obtain⟨g,bo',rfl,hg,hbo,hbo2,o1,ho3⟩:=ho.at_ (i:=i) oM;obtain⟨d1,d2,d3,d4,d5,d6⟩:=bx2.three;obtain⟨f1,f2,f3,f4,f5,f6⟩:=T5.three;have hio:i<on:=by omega
     have HO3:=xgw ho3;clear ho3;have lt1:=bx1.lt;have lt2:=bx2.lt;have lt5:=T5.lt;go_upto_region 10 with(fail)
     refine zC 24 rfl (RI wr (wr.heap.size) _ 35
       [VP 0 39 w2.heap.size 2,VSl 1 40 g on oc,VN 2 41 i,VP 3 42 g i,VSl 4 43 bo' tn tn,VN 5 44 j,VP 6 45 w.heap.size 2,VSl 7 46 b n2 cap,VN 8 47 i,VP 9 48 b i,VSl 10 49 b' tn rc,VN 11 50 j,VP 12 51 b' (j*2),E 13 52 (.agg #[.bool s,.slice a l c]),VP 14 53 (w.heap.size+1) 2,VSl 15 54 t n2 cap2,VN 16 55 i,VP 17 56 t i,VSl 18 57 t' tn tc,VN 19 58 j,VP 20 59 t' (j*2),E 21 60 (.agg #[.bool s2,.slice a2 l2 c2']),EI 22 61 (z+y),VP 23 62 bo' (j*2)] [] []) kR RI.start (RI.fin kR ?fin1) ?steps1
     case steps1=>
      refine⟨?_,?_,?_,?_,?_,?_,?_,?_,?_,?_,?_,?_,?_,?_,?_,?_,?_,?_,?_,?_,?_,?_,?_,?_,trivial⟩<;>(intro L T wS hL hd hcl hI K hK;try refine zA rfl ?_)
      ·exact xgs (hI.k 6 rfl kR)
      ·have zt0:=hI.e mm0 (hd 0)
       have cc0:=hI.cell f3 oM nom;exact xgu
      ·exact xgs (hI.k 7 rfl kR)
      ·exact xgt (hI.e mm1 (hd 1)) (hI.e mm2 (hd 2))
      ·have zt3:=hI.e mm3 (hd 3)
       have cc0:=hI.cell o1 oM nom;exact xgu
      ·exact xgs (hI.k 8 rfl kR)
      ·exact xgs (hI.k 2 rfl kR)
      ·have zt6:=hI.e mm6 (hd 6)
       have cc0:=hI.cell c3 oM nom;exact xgu
      ·exact xgs (hI.k 7 rfl kR)
      ·exact xgt (hI.e mm7 (hd 7)) (hI.e mm8 (hd 8))
      ·have zt9:=hI.e mm9 (hd 9)
       have cc0:=hI.cell p1 oM nom;exact xgu
      ·exact xgs (hI.k 8 rfl kR)
      ·exact xgt (hI.e zAC (hd 10)) (hI.e zAJ (hd 11))
      ·have zt12:=hI.e zAo (hd 12)
       have cc0:=hI.cell q1 oM nom;have cc1:=hI.cell q2' oM nom;exact xgu
      ·exact xgs (hI.k 3 rfl kR)
      ·have zt14:=hI.e zBp (hd 14)
       have cc0:=hI.cell d3 oM nom;exact xgu
      ·exact xgs (hI.k 7 rfl kR)
      ·exact xgt (hI.e zCS (hd 15)) (hI.e zDs (hd 16))
      ·have zt17:=hI.e zEs (hd 17)
       have cc0:=hI.cell p2 oM nom;exact xgu
      ·exact xgs (hI.k 8 rfl kR)
      ·exact xgt (hI.e zCT (hd 18)) (hI.e zEt (hd 19))
      ·have zt20:=hI.e zEZ (hd 20)
       have cc0:=hI.cell q3 oM nom;have cc1:=hI.cell q4 oM nom;exact xgu
      ·have zt13:=hI.e zCF (hd 13)
       have zt21:=hI.e zEa (hd 21);go_simp;refine(zBZ _ _ z y _ (hzv.ext hI.lext) (hyv.ext hI.lext) SZ.out SY.out).mono ?_;exact xgo
      ·exact xgt (hI.e mm4 (hd 4)) (hI.e mm5 (hd 5))
     intro w9 hlw9 hbw9 holdw9 T hT;simp only[Fin,E,EI,VP,VSl,VN,xgg,xgh,xgi,xgj]at hT;obtain⟨va22,ha22,rfl⟩:=hT;simp only[xgl,xgk];obtain⟨pn,pa,pl,pc,px,rfl,hpx⟩:=id ha22;have HPX:=xgw hpx;clear hpx;have ho9:=ho.below hbw9;obtain⟨sn,sa,sl,sc,z1,z2,z3,z4,-⟩:=ho9.cellAt hbo hjc;have hbolt:=hlts i bo' hbo;have hset:=ho9.set hbo hjc ha22;go_wp2;go_roundw
     case rel=>
      have hq:z+y=f i j:=by rw[HFE.out,hent.out,hent2.out]
      rw[hq,zDJ hlt hjc]at hset;exact⟨j+1,by omega,by simp,zT (zT (nx hb hbw9) oM _ _) oM _ _,(zR _ _ _ _ _ _ _ oM).trans (bx1.below hbw9),(zR _ _ _ _ _ _ _ oM).trans (bx2.below hbw9),(zR _ _ _ _ _ _ _ oM).trans (br.below hbw9),(zR _ _ _ _ _ _ _ oM).trans (T5.below hbw9),hset.1⟩
     case measure=>simp[intOf];omega
    ·obtain rfl:j=C:=by omega
     rw[zDI]at ho;go_wp2;go_roundw
     case rel=>exact⟨i+1,by omega,by simp,hb,bx1,bx2,br,T5,ho⟩
     case measure=>simp[intOf];omega
  ·obtain rfl:i=n2:=by omega
   rw[zDH]at ho;obtain⟨f1,f2,f3,f4,f5,f6⟩:=T5.three;obtain⟨r1,r2,r3,r4,r5,r6⟩:=br.three;have q1:=hB0.size;go_wp2;refine bodyPost_ret (zCI rfl _ rfl (br.put3 _ _ _) rfl) rfl ⟨_,rfl,⟨_,rfl,?_⟩,zT (zT (zT hb oM 0 _) oM 1 _) oM 2 _⟩;exact yP.keep3s ⟨_,rfl,ho.rows⟩ br _ _ _
theorem zMw(v kv:Value)(R C:Nat)(M:List (List Int))(k:Int)(w:World)(h:yP w v R C M)(hF:jK R C M)(hk:zH w kv k)(hR:R<=1000000)(hC:C<=1000000)(hS:∀r∈M,∀z∈r,Sm z)(hks:Sm k):
  Calls Tryz.prog 28 #[v,kv] w fun e w'=>∃v,e= .returned v/\yP w' v R C (zX R C (fun i j=>ent M i j*k))/\Below w.heap.size w w':=
 (zHx v kv R C M k w h hF hk hR hC hS hks).mono fun e w' ⟨v,bs,he,hm,hb⟩=>⟨v,he,hm.mat.1,hb⟩
theorem zPT(v1 v2:Value)(R C:Nat)(M M2:List (List Int))(w:World)(h:yP w v1 R C M)(h2:yP w v2 R C M2)(hF:jK R C M)(hF2:jK R C M2)(hR:R<=1000000)(hC:C<=1000000)(hS:∀r∈M,∀z∈r,Sm z)(hS2:∀r∈M2,∀z∈r,Sm z)(hS3:∀r∈zX R C (fun i j=>ent M2 i j*-1),∀z∈r,Sm z):
  Calls Tryz.prog 24 #[v1,v2] w fun e w'=>∃v,e= .returned v/\zJy R C (zX R C (fun i j=>ent M i j-ent M2 i j)) w' v/\Below w.heap.size w w':=by
 have hE:zX R C (fun i j=>ent M i j+ent (zX R C (fun i j=>ent M2 i j*-1)) i j)=zX R C (fun i j=>ent M i j-ent M2 i j):=qK fun i hi j hj=>by
  rw[yU hi hj];omega
 obtain⟨W5,hW5⟩:∃W5,zX R C (fun i j=>ent M i j-ent M2 i j)=W5:=⟨_,rfl⟩;rw[hW5]at hE ⊢
 obtain⟨N2,hN2⟩:∃N2,zX R C (fun i j=>ent M2 i j*-1)=N2:=⟨_,rfl⟩;have hF3:jK R C N2:=hN2 ▸ zAV _ _ _;have HSC:qF (∀(v kv:Value) (w:World),yP w v R C M2->zH w kv (-1)->Calls Tryz.prog 28 #[v,kv] w fun e w'=>∃v,e= .returned v/\yP w' v R C N2/\Below w.heap.size w w'):=⟨fun v kv w h hk=>hN2 ▸ zMw v kv R C M2 (-1) w h hF2 hk hR hC hS2 (Smd.one dE).sm⟩;rw[hN2]at hE hS3;have HAD:qF (∀(v1 v2:Value) (w:World),yP w v1 R C M->yP w v2 R C N2->Calls Tryz.prog 22 #[v1,v2] w fun e w'=>∃v,e= .returned v/\zJy R C W5 w' v/\Below w.heap.size w w'):=⟨fun v1 v2 w h1 h2=>hE ▸ zLB v1 v2 R C M N2 w h1 h2 hF hF3 hR hC hS hS3⟩;obtain⟨ao,an,ac,rfl⟩:=h.agg;obtain⟨bo,bn,bc,rfl⟩:=h2.agg;have H1:=xgv h;have H2:=xgv h2;clear h h2 hF hF2 hS hS2 hS3 hE hW5 hN2 hF3;go_enter Tryz.func24,Tryz.ntmps24;go_upto_region 1 with(fail)
 refine zB ?_;intro W0 hW0;obtain⟨hB0,bx1,bx2,br,hs0⟩:=yG hW0;obtain⟨c1,c2,c3,c4,c5,c6⟩:=bx1.three;obtain⟨d1,d2,d3,d4,d5,d6⟩:=bx2.three;clear hW0;have hLM:=yR R C N2;have hLP:=zHi R C W5;have hLI:=yJ (-1);refine zC 7 rfl (RV W0 _ [E 0 6 (.agg #[.int .i64 R,.int .i64 C,.slice ao an ac]),E 1 7 (.agg #[.int .i64 R,.int .i64 C,.slice bo bn bc]),⟨2,8,fun w v=>zH w v (-1)⟩,⟨3,9,fun w v=>yP w v R C N2⟩,⟨4,10,zJy R C W5⟩,⟨5,11,fun w v=>yP w v R C W5⟩,VN 6 12 0]) kR RV.start (RV.fin kR ?fin2) ?steps2
 case steps2=>
  refine⟨?_,?_,?_,?_,?_,?_,?_,trivial⟩<;>(intro L T wS hL hd hcl hI K hK;try refine zA rfl ?_)
  ·have zt:=hI.k 2 rfl kR
   have cc0:=hI.cell c1;have cc1:=hI.cell c2;have cc2:=hI.cell c3;exact xgu
  ·have zt:=hI.k 3 rfl kR
   have cc0:=hI.cell d1;have cc1:=hI.cell d2;have cc2:=hI.cell d3;exact xgu
  ·go_simp
   refine(zAF (-1) _ dE dE).mono ?_;rintro e wa ⟨v,rfl,hv,hba⟩;exact hK _ _ ((hI.world hba).y mm2 hv)
  ·have zt1:=hI.e mm1 (hd 1)
   obtain⟨v2,zt2,h2⟩:=hI.v mm2 (hd 2);go_simp;refine(HSC.out _ _ _ (H2.out.below (nx hB0 hI.bel)) h2).mono ?_;rintro e wa ⟨v,rfl,hv,hba⟩;exact hK _ _ ((hI.world hba).y mm3 hv)
  ·have zt0:=hI.e mm0 (hd 0)
   obtain⟨v3,zt3,h3⟩:=hI.v mm3 (hd 3);go_simp;refine(HAD.out _ _ _ (H1.out.below (nx hB0 hI.bel)) h3).mono ?_;rintro e wa ⟨v,rfl,hv,hba⟩;exact hK _ _ ((hI.world hba).y mm4 hv)
  ·obtain⟨z4,zt4,hz4⟩:=hI.v mm4 (hd 4)
   obtain⟨u,rfl,hu⟩:=hz4;go_simp;exact hK _ _ (hI.y mm5 hu)
  ·obtain⟨z4,zt4,hz4⟩:=hI.v mm4 (hd 4)
   obtain⟨u,rfl,hu⟩:=hz4;go_simp;exact hK _ _ (hI.y mm6 rfl)
 intro w9 hbw9 T hT;simp only[Fin,E,EI,VP,VSl,VN,xgg,xgh,xgi,xgj]at hT;obtain⟨va2,ha2,va3,ha3,va4,ha4,va5,ha5,rfl⟩:=hT;simp only[xgl,xgk];obtain⟨uo,un,uc,rfl⟩:=ha5.agg;have br:=br.below hbw9;have hB:=nx hB0 hbw9;obtain⟨r1,r2,r3,r4,r5,r6⟩:=br.three;have q1:=hB0.size;go_wp2;exact bodyPost_ret (zCI rfl _ rfl (br.put3 _ _ _) rfl) rfl ⟨_,rfl,⟨_,rfl,yP.keep3s ha5 br _ _ _⟩,zT (zT (zT hB oM 0 _) oM 1 _) oM 2 _⟩
end Go.Proofs.YtnbmaipobhppcaaGreat

namespace Go.Proofs.YtnbmaipobhppcaaGreat
open Go.ChangeShapes Go.WideShapes Go.ChangeAt Go.RowKit
theorem Tryz.own:ownKnob Tryz.prog.godebug=none:=by kernel_rfl
theorem Tryz.laidOut:laidOutB Tryz.prog=true:=by kernel_rfl
theorem zO5:Tryz.prog.cellsOf 5=1:=by kernel_rfl
theorem zKx{H:Type}{enc:TypeId × Value->H}{w:World}{f:Nat}{cs:List Value}{y:DataW H × List MemPlace}(hf:DataW.trod enc Tryz.prog w 0 (fun _=>true) true f 22 cs=some y)(hlt:∀x∈y.2,x.block<w.heap.size):
  ∃ao n cap ls,cs= [.slice ao n cap]/\I8V w (.slice ao n cap) ls:=by
 rcases open_ints Tryz.underlying22 Tryz.underlying51 kR hf with⟨e1,-⟩|⟨a,len,cap,zs,e1,-,hl,hm,hzl,e2,hcell,hwf⟩
 ·exact⟨none,0,0,[],e1,none,0,0,rfl,rfl,xgf _,by omega,fun z hz=>(by cases hz),fun h=>absurd rfl h⟩
 ·simp only[if_true]at hzl
  unfold maxLen at hm;refine⟨some a,len,cap,zs.take len,e1,some a,len,cap,rfl,by simp;omega,hl,by omega,fun z hz=>?_,fun h=>?_⟩
  ·have:=hwf z (List.mem_of_mem_take hz)
   exact bounds_i8 this
  ·have hpos:0<zs.length:=by
    rcases Nat.eq_zero_or_pos zs.length with h0|h0
    ·exact absurd (by rw[List.eq_nil_of_length_eq_zero h0];simp) h
    ·exact h0
   obtain⟨b,off,rfl,hj⟩:=ints_at hcell hpos;refine⟨b,off,rfl,?_,fun k z hk=>?_⟩
   ·exact hlt (.cell b off) (by rw[e2];exact MemPlace.mem_row.2 ⟨0,hpos,rfl⟩)
   ·obtain⟨h1,h2⟩:=xge.1 hk
    rw[List.getElem_take]at h2;have hkz:k<zs.length:=by
     simp at h1;omega
    rw[hj k hkz,<-h2];simp[hkz]
theorem zMp{H:Type}{enc:TypeId × Value->H}{w:World}{b0:Nat}{r:Reach}{v:Value}{d:DataW H}{ps:List MemPlace}(hval:Value.okWide Tryz.prog w r b0 24 v)
  (h:DataW.Trod enc Tryz.prog w 0 (fun _=>true) true 24 v d ps) (hlt:∀x∈ps,x.block<w.heap.size):∃(a b:Nat) (sv:Value) (ls:List Int),v= .agg #[.int .u8 a,.int .u8 b,sv]/\a<=255/\b<=255/\I8V w sv ls:=by
 simp only[Value.okWide,Tryz.underlying24]at hval;obtain⟨cs,rfl,hsz,-⟩:=hval;obtain⟨fuel,hf⟩:=h;obtain⟨xs,m,h0,h1,h2,h3,h4⟩:=DataW.trod_struct Tryz.underlying24 hf;have c24:Tryz.prog.cellsOf 24=3:=by kernel_rfl
 have c22:Tryz.prog.cellsOf 22=1:=by kernel_rfl
 have g0:DataW.trod enc Tryz.prog w 0 (fun _=>true) true m 5 (List.take (Tryz.prog.cellsOf 5) (List.drop 0 (Value.agg cs).cells.toList))=xs[0]?:=h4 0 _ rfl;have g1:DataW.trod enc Tryz.prog w 0 (fun _=>true) true m 5 (List.take (Tryz.prog.cellsOf 5) (List.drop 1 (Value.agg cs).cells.toList))=xs[1]?:=h4 1 _ rfl;have g2:DataW.trod enc Tryz.prog w 0 (fun _=>true) true m 22 (List.take (Tryz.prog.cellsOf 22) (List.drop 2 (Value.agg cs).cells.toList))=xs[2]?:=h4 2 _ rfl;rw[c24]at h2;rw[zO5]at g0 g1;rw[c22]at g2;simp only[Value.cells]at g0 g1 g2 h2;obtain⟨cl⟩:=cs;match xs,h3 with
 | [y0,y1,y2],_=>
  match cl,h2 with
  | [k0,k1,k2],_=>
   simp at g0 g1 g2;obtain⟨a,ha,-,wa⟩:=DataW.trod_int Tryz.underlying5 g0;obtain⟨b,hb,-,wb⟩:=DataW.trod_int Tryz.underlying5 g1;simp only[Prod.mk.injEq]at h1;obtain⟨ao,n,cap,ls,hk,hI⟩:=zKx g2 (fun x hx=>hlt x (by rw[h1.2];simp[hx]));simp at ha hb hk;subst ha;subst hb;subst hk;have wa:=bounds_u8 wa;have wb:=bounds_u8 wb;exact⟨a.toNat,b.toNat,_,ls,by rw[Int.toNat_of_nonneg wa.1,Int.toNat_of_nonneg wb.1],by omega,by omega,hI⟩
theorem zMo{H:Type}{enc:TypeId × Value->H}{w:World}{b0:Nat}{r:Reach}{v:Value}{d:DataW H}{ps:List MemPlace}(hval:Value.okWide Tryz.prog w r b0 22 v)
  (h:DataW.Trod enc Tryz.prog w 0 (fun _=>true) true 22 v d ps) (hlt:∀x∈ps,x.block<w.heap.size):∃ls,I8V w v ls:=by
 obtain⟨a0,len0,cap0,rfl⟩:=okWide_slice Tryz.underlying22 hval;obtain⟨fuel,hf⟩:=h;obtain⟨ao,n,cap,ls,hk,hI⟩:=zKx hf hlt;simp[Value.cells]at hk;obtain⟨rfl,rfl,rfl⟩:=hk;exact⟨ls,hI⟩
theorem zKw{H:Type}{enc:TypeId × Value->H}{w:World}{b0:Nat}{r:Reach}{v:Value}{d:DataW H}{ps:List MemPlace}(hval:Value.okWide Tryz.prog w r b0 5 v)
  (h:DataW.Trod enc Tryz.prog w 0 (fun _=>true) true 5 v d ps):∃n:Nat,v= .int .u8 n/\n<=255:=by
 obtain⟨z,rfl⟩:=okWide_int Tryz.underlying5 hval;obtain⟨fuel,hf⟩:=h;obtain⟨a,ha,-,wa⟩:=DataW.trod_int Tryz.underlying5 hf;simp[Value.cells]at ha;subst ha;have:=bounds_u8 wa;exact⟨z.toNat,by rw[Int.toNat_of_nonneg this.1],by omega⟩
end Go.Proofs.YtnbmaipobhppcaaGreat
