/- Joined. -/
import Derived.Test.YtkidaebmhlijlaaGreatS25
set_option linter.unusedVariables false
set_option linter.unusedSimpArgs false
set_option linter.unusedSectionVars false
set_option maxHeartbeats 16000000
set_option maxRecDepth 100000
variable{C R:Nat}
namespace Go.Proofs.YtkidaebmhlijlaaGreat
open Go.RowKit
theorem zHv(v:Value)(zs:List Int)(w:World)(h:zBm w v zs):
  Calls Tryz.prog 86 #[v] w fun e w'=>e= .returned (.bool true)/\Below w.heap.size w w':=by
 obtain⟨ao,n,cap,rfl,e2,e3,e4,-⟩:=id h;have HX:=xgw e2;clear e2;go_enter Tryz.func86,Tryz.ntmps86;go_wp2;go_loopw [7] (fun iv wr=>∃k:Nat,k<=n/\iv= .int .i64 k/\Below w.heap.size w wr) (fun iv _=>n-(intOf iv).toNat)
 case atStart=>exact⟨0,by omega,rfl,zA _ _⟩
 obtain⟨k,hk,rfl,hb⟩:=hrel;by_cases hlt:k<n
 ·obtain⟨b,z,s,a,l,c,rfl,hbl,hzk,q1,q2,hzv⟩:=(h.below hb).cell (k:=k) (by rw[HX.out];exact hlt)
  clear hzk;go_upto_region 4 with(fail)
  refine zD ?_;intro W1 hW1;obtain⟨hB1,T4,hs1⟩:=qM hW1;obtain⟨d1,d2,d3,d4⟩:=T4.two;clear q1 q2 hW1;go_wp2_with fail
  refine(zMY _ z W1 (hzv.ext (lx hB1))).mono ?_;rintro e w2 ⟨rfl,hb2⟩;have hb':=nx (nx hb hB1) hb2;clear d1 d2 d3 d4;go_wp2;go_roundw
  case rel=>exact⟨k+1,by omega,by simp,hb'⟩
  case measure=>simp[intOf];omega
 obtain rfl:k=n:=by omega
 go_wp2;go_ret;exact⟨rfl,hb⟩
theorem zWt{Q r1 r2:Nat}{κ1 κ2:Nat->Nat}{A B G1 G2:Nat->Nat->Int}(h1:zIN R C r1 κ1 A G1)(h2:zIN Q C r2 κ2 B G2){ans:Bool}(hans:ans=true↔∀x,yC R C A x↔yC Q C B x):decide (genM r1 C G1=genM r2 C G2)=ans:=by
 have h:(genM r1 C G1=genM r2 C G2)↔∀x,yC R C A x↔yC Q C B x:=by
  constructor
  ·intro e x
   obtain rfl:r1=r2:=by
    have:=congrArg List.length e;simpa[genM]using this
   have e2:∀a,a<r1->∀b,b<C->G1 a b=G2 a b:=fun a ha b hb=>by
    have:=congrArg (fun M=>ent M a b) e;rw[show ent (genM r1 C G1) a b=G1 a b from jM ha hb,show ent (genM r1 C G2) a b=G2 a b from jM ha hb]at this;exact this
   exact(h1.hb.iff x).trans ((yC.congr e2 x).trans (h2.hb.iff x).symm)
  intro hP;exact(h1.hb.mat h2.hb hP).2
 by_cases e:genM r1 C G1=genM r2 C G2
 ·rw[decide_eq_true e,hans.2 (h.1 e)]
 rw[decide_eq_false e];cases ha:ans with
 |false=>rfl
 |true=>exact absurd (h.2 (hans.1 ha)) e
theorem zNI(v1 v2:Value)(R Q C D:Nat)(M N:List (List Int))(w:World)(h1:zAO w v1 R C M)(h2:zAO w v2 Q D N)(hF1:zBc R C M)(hF2:zBc Q D N)(hC:C<=1000000)(hD:C=D)
  (k1:∀(v:Value) (w:World),zAO w v R C M->Calls Tryz.prog 59 #[v] w fun e w'=>∃v,e= .returned v/\zHf R C (ent M) w' v/\Below w.heap.size w w')
  (k2:∀(v:Value) (w:World),zAO w v Q D N->Calls Tryz.prog 59 #[v] w fun e w'=>∃v,e= .returned v/\zHf Q D (ent N) w' v/\Below w.heap.size w w')
  {ans:Bool} (hans:ans=true↔∀x,yC R C (ent M) x↔yC Q C (ent N) x):
  Calls Tryz.prog 27 #[v1,v2] w fun e w'=>∃v,e= .returned v/\v= .bool ans/\Below w.heap.size w w':=by
 have H1:=xgv h1;have H2:=xgv h2;obtain⟨A1,rfl,h1⟩:=h1;obtain⟨A2,rfl,h2⟩:=h2;have HF1:=xgv hF1;have HF2:=xgv hF2;have HD:=xgv hD;have HN:=xgv hans;have K1:=xgv k1;have K2:=xgv k2;have HAA:zAN (((C:Int)==(D:Int))=true):=⟨by rw[hD];simp⟩;clear h1 h2 hF1 hF2 hD hans k1 k2;go_enter Tryz.func27,Tryz.ntmps27;go_upto_region 1 with(fail)
 refine zD ?_;intro W0 hW0;obtain⟨hB0,bx1,bx2,hs0⟩:=zAd hW0;obtain⟨c1,c2,c3,c4,c5,c6⟩:=bx1.three;obtain⟨d1,d2,d3,d4,d5,d6⟩:=bx2.three;clear hW0;go_wp2_with fail
 refine(zFB _ _ _ _ _ _ W0).mono ?_;rintro e w1 ⟨rfl,k1,k2,hb1⟩;have hB:=nx hB0 hb1;have bx1:=bx1.below hb1;have bx2:=bx2.below hb1;clear c1 c2 c3 c4 c5 c6 d1 d2 d3 d4 d5 d6;go_wp2_with fail
 refine(zDE (.inl rfl) _ _ 1 50 _ (qQ _ _ _) (ans:=true) (k:=0) rfl (fun W hW=>zEK _ _ R C Q D _ _ M N W (((H1.out.below hB).below ((zA _ _).alloc (xgf _) _)).below hW) HF1.out (((H2.out.below hB).below ((zA _ _).alloc (xgf _) _)).below hW) HF2.out ((k1.below ((zA _ _).alloc (xgf _) _)).below hW) ((k2.below ((zA _ _).alloc (xgf _) _)).below hW) HAA.out)).mono ?_;rintro e w2 ⟨v,rfl,rfl,hb2⟩;have hb02:Below w1.heap.size w1 w2:=nx ((zA _ _).alloc (xgf _) _) hb2;have hB:=nx hB hb02;have bx1:=bx1.below hb02;have bx2:=bx2.below hb02;clear k1 k2;obtain⟨c1,c2,c3,c4,c5,c6⟩:=bx1.three;obtain⟨d1,d2,d3,d4,d5,d6⟩:=bx2.three;go_wp2_with fail
 refine(zFy _ _ R C Q D M N w2 (H1.out.below hB) (H2.out.below hB) K1.out K2.out).mono ?_;rintro e w3 ⟨q1,o1,n1,k1,q2,o2,n2,k2,rfl,⟨r1,κ1,G1,l1,m1⟩,⟨r2,κ2,G2,l2,m2⟩,hb3⟩;have hB:=nx hB hb3;have M1:=xgv m1;have M2:=xgv m2;have L1:=xgv l1;have L2:=xgv l2;clear c1 c2 c3 c4 c5 c6 d1 d2 d3 d4 d5 d6 bx1 bx2 m1 m2 l1 l2;go_upto_region 4 with(fail)
 refine zD ?_;intro W4 hW4;obtain⟨hB4,T5,hs4⟩:=qM hW4;obtain⟨t1,t2,t3,t4,t5,t6⟩:=T5.six;have hB:=nx hB hB4;clear hW4;go_wp2_with fail
 refine(zVw _ _ r1 r2 C _ _ W4 (M1.out.below hB4) (by simpa only[HD.out]using M2.out.below hB4) (jJ _ _ _) (jJ _ _ _) hC).mono ?_;rintro e w5 ⟨v,rfl,rfl,hb5⟩;rw[zWt L1.out (by simpa only[HD.out]using L2.out) HN.out];have hB:=nx hB hb5;go_wp2;go_ret;exact⟨_,rfl,rfl,hB⟩
theorem zKn{e k:Nat}(v1 v2:Value)(M:List (List Int))(x:Nat->Int)(w:World)(h1:zAO w v1 R C M)(hF1:zBc R C M)(h2:zBm w v2 (yL C x))(hC:C<=4)
  (k1:∀(v:Value) (w:World),zAO w v R C M->Calls Tryz.prog 59 #[v] w fun e w'=>∃v,e= .returned v/\zHf R C (ent M) w' v/\Below w.heap.size w w')
  (hw:∀r c G,zIN R C r c (ent M) G->HNw r C e (genM r C G)) (he:e<=10000) (hk:k<=2^e) (hb:∀b,b<C->(x b).natAbs<=k) {ans:Bool} (hans:ans=true↔yC R C (ent M) x):
  Calls Tryz.prog 35 #[v1,v2] w fun e w'=>∃v,e= .returned v/\v= .bool ans/\Below w.heap.size w w':=by
 have H1:=xgv h1;obtain⟨A1,rfl,h1⟩:=h1;obtain⟨xo,xn,xc,rfl,x2,x3,x4,-⟩:=id h2;rw[qC]at x2;subst x2;have H2:=xgv h2;have HF1:=xgv hF1;have HN:=xgv hans;have K1:=xgv k1;have HW:=xgv hw;have HK:=xgv hk;have HB:=xgv hb;clear h1 h2 hF1 hans k1 hw hk hb;go_enter Tryz.func35,Tryz.ntmps35;go_upto_region 1 with(fail)
 refine zD ?_;intro W0 hW0;obtain⟨hB0,bx1,hs0⟩:=qM hW0;obtain⟨c1,c2,c3,c4,c5,c6⟩:=bx1.three;clear hW0;go_wp2_with fail
 refine(zKv _ R C M W0 (H1.out.below hB0) HF1.out).mono ?_;rintro e w1 ⟨v,rfl,rfl,hb1⟩;have hB:=nx hB0 hb1;have bx1:=bx1.below hb1;clear c1 c2 c3 c4 c5 c6;obtain⟨c1,c2,c3,c4,c5,c6⟩:=bx1.three;go_wp2_with fail
 refine(zHv _ _ w1 (H2.out.below hB)).mono ?_;rintro e w2 ⟨rfl,hb2⟩;have hB:=nx hB hb2;have bx1:=bx1.below hb2;clear c1 c2 c3 c4 c5 c6;obtain⟨c1,c2,c3,c4,c5,c6⟩:=bx1.three;go_wp2_with fail
 refine(K1.out _ w2 (H1.out.below hB)).mono ?_;rintro e w3 ⟨v,rfl,⟨r,κ,G,hl,hm⟩,hb3⟩;have hB:=nx hB hb3;have hwd:=HW.out r κ G hl;have hrc:r<=C:=hl.hb.le_cols;have ha:ans=true↔yC r C (ent (genM r C G)) x:=HN.out.trans ((hl.hb.iff x).trans (yC.congr (fun a ha b hb=>(jM ha hb).symm) x));have HA:=xgv ha;have HWD:=xgv hwd;have HM:=xgv hm;obtain⟨m1,m2,m3,rfl⟩:=hm.agg;clear c1 c2 c3 c4 c5 c6 ha hwd hm hl;go_wp2_with fail
 refine(zJx _ _ _ x w3 HM.out HWD.out (H2.out.below hB) oM oM he HK.out HB.out HA.out).mono ?_;rintro e w4 ⟨v,rfl,rfl,hb4⟩;have hB:=nx hB hb4;go_wp2;go_ret;exact⟨_,rfl,rfl,hB⟩
def zY2(t:TypeId)(n0:Nat)(cs:Array Value)(w:World)(v:Value):Prop:=∃b,v= .pointer (some ⟨b,0,none⟩)/\n0<=b/\Blk w b t cs

end Go.Proofs.YtkidaebmhlijlaaGreat
