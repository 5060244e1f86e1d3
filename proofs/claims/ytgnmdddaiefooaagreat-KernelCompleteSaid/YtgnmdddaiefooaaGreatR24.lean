/- hermite: join. -/
import Derived.Test.YtgnmdddaiefooaaGreatR22
import Derived.Test.YtgnmdddaiefooaaGreatR23
set_option linter.unusedVariables false
set_option linter.unusedSimpArgs false
set_option linter.unusedSectionVars false
set_option maxHeartbeats 16000000
set_option maxRecDepth 100000
namespace Go.Proofs.YtgnmdddaiefooaaGreat
open Go.RowKit
abbrev zAf:TypeId:=145
theorem zAj.row{e:Bool}{Z:Nat->Prop}{w:World}{bw g a cap n Cs Ct:Nat}{x:Bst}(h:zAj e Z w bw (.slice (some ⟨g,0,none⟩) a cap) n Cs Ct x){i:Nat}(hi:i<n):
  ∃b,w.cell? ⟨g,i,none⟩=some (.slice (some ⟨b,0,none⟩) Cs Cs)/\qF w b (zQ Cs (x.s i))/\g<w.heap.size:=by
 obtain⟨bss,hw,-⟩:=h.wri;obtain⟨g1,b,eg,hg,hb,-,o1,-⟩:=zJ.at_ hw (i:=i) (by rw[hw.len];exact hi);obtain rfl:g=g1:=by injection eg with eg;injection eg
 exact⟨b,o1,hw.rowAt hi hb,hg⟩
theorem zAj.only{e:Bool}{Z:Nat->Prop}{w w':World}{bw b n Cs Ct:Nat}{Ah:Value}{x:Bst}{cs:Array Value}(h:zAj e Z w bw Ah n Cs Ct x)(ho:yQ [b] w w')(hz:¬ Z b)(hb:Blk w b 51 cs):zAj e Z w' bw Ah n Cs Ct x:=by
 have hr:qF w b []:=⟨cs,hb,fun k z hk=>by simp at hk⟩;unfold zAj at h ⊢
 split at h
 ·rename_i he
  rw[if_pos he];obtain⟨Au,Av,b1,b2,b3,h1,h2,h3⟩:=h;exact⟨Au,Av,b1,b2,b3,h1.row ho hr dE,⟨h2.s.only ho (fun hm=>hz (h3 _ (.inl hm))) hr,h2.t.only ho (fun hm=>hz (h3 _ (.inr (.inl hm)))) hr,h2.i.only ho (fun hm=>hz (h3 _ (.inr (.inr hm)))) hr,h2.st,h2.si,h2.ti,h2.ast,h2.asi,h2.ati⟩,h3⟩
 ·rename_i he
  rw[if_neg he];obtain⟨h0,Au,Av,b1,h1,h2,h3,h4,h5⟩:=h;exact⟨h0,Au,Av,b1,h1.row ho hr dE,h2.only ho (fun hm=>hz (h5 _ hm)) hr,h3.row ho hr,h4.row ho hr,h5⟩
theorem zIV{w:World}{b:Nat}{x y c0 c1:Value}(hb:Blk w b 51 #[c0,c1]):yQ [b] w ((w.setCell ⟨b,0,none⟩ x).setCell ⟨b,1,none⟩ y):=
 ⟨zP (zP (Below.refl 0 _) (Nat.zero_le _) _ _) (Nat.zero_le _) _ _,hb.lext2 dE _ _,fun k _ hk=>qH _ _ _ _ _ _ _ (by simpa using hk)⟩
theorem zM.new{Z:Nat->Prop}{w w1 w2:World}{b:Nat}(h:zM Z w w1)(ho:yQ [b] w1 w2)(hb:w.heap.size<=b):zM Z w w2:=
 ⟨h.bel.trans ho.bel,h.lext.trans ho.lext,fun k hk hn=>(ho.old k (Nat.lt_of_lt_of_le hk h.bel.size) (by simp;omega)).trans (h.old k hk hn)⟩
theorem zL7{e0:Bool}{Z:Nat->Prop}{B:Nat}(hB:BSd B){bw n Cs Ct r m c:Nat}{Ah:Value}{x:Bst}{w:World}(h:zAj e0 Z w bw Ah n Cs Ct x)(hok:okB B n Cs Ct x)(hr:r<n)(hm:m<n)(hrm:r≠m)(hc:c<Cs)(h0:x.s r c≠0)
  (hn:n<=1000000) (hCs:Cs<=1000000) (hCt:Ct<=1000000) (hZ:∀b,Z b->b<w.heap.size)
  (ha:x.s m c%x.s r c=0->zBx B n Cs Ct x m r (-(x.s m c/x.s r c)))
  (hx:∀s t,Bez (x.s r c) (x.s m c) s t->zKk B n Cs Ct x r m s t (-(x.s m c/((Int.gcd (x.s r c) (x.s m c):Nat):Int))) (x.s r c/((Int.gcd (x.s r c) (x.s m c):Nat):Int))):
  Calls Tryz.prog 144 #[Ah,.agg #[.int .i64 r,.int .i64 c],.int .i64 m,.agg (zAx bw)] w fun e w'=>(∃u,e= .returned u)/\zM Z w w'/\∃y,zIq x r m c y/\zAj e0 Z w' bw Ah n Cs Ct y:=by
 obtain⟨bss0,hw0,-⟩:=h.wri;obtain⟨so,sn,cap,rfl,s1,-⟩:=id (zJ.rows hw0);have e2:n=sn:=by rw[<-s1];simp[genM]
 subst e2;obtain⟨g,_,rfl,-⟩:=zJ.at_ hw0 (i:=r) (by rw[hw0.len];exact hr);clear s1 hw0 bss0;have HOK:=xgv hok;have HAD:=xgv ha;have HMX:=xgv hx;obtain⟨X,hX⟩:∃X,x.s r c=X:=⟨_,rfl⟩;obtain⟨Y,hY⟩:∃Y,x.s m c=Y:=⟨_,rfl⟩;have HXV:=xgw hX;have HYV:=xgw hY;have SX:qM (Smd X):=⟨by rw[<-hX];exact hB.smd _ (hok.1 r hr c hc)⟩;have SY:qM (Smd Y):=⟨by rw[<-hY];exact hB.smd _ (hok.1 m hm c hc)⟩;rw[hX]at h0 HAD HMX;rw[hY]at HAD HMX;have HH:=xgv h;obtain⟨br,o1,r1,hg⟩:=h.row hr;obtain⟨bm,o2,r2,-⟩:=h.row hm;obtain⟨xn,xa,xl,xc,q1,q2,-,-,hxv⟩:=r1.cell (zW hc);obtain⟨yn,ya,yl,yc,q3,q4,-,-,hyv⟩:=r2.cell (zW hc);rw[hX]at hxv;rw[hY]at hyv;have lr1:=r1.lt;have lr2:=r2.lt;clear hok ha hx hX hY h r1 r2;go_enter Tryz.func144,Tryz.ntmps144;go_upto_region 1 with(fail)
 refine zC ?_;intro W0 hW0;obtain⟨hB0,T5,T7,hs0⟩:=qK hW0;have T7:Blk W0 (w.heap.size+1) 143 (zAx bw):=T7;have hO:=zM.of Z hB0;have HH:=xgv (HH.out.below hB0);have o1:=qC o1 hB0;have o2:=qC o2 hB0;have q1:=qC q1 hB0;have q2:=qC q2 hB0;have q3:=qC q3 hB0;have q4:=qC q4 hB0;have hxv:=hxv.ext (lx hB0);have hyv:=hyv.ext (lx hB0);obtain⟨p1,p2,p3,p4⟩:=T5.two;have l5:=T5.lt;have lz:=hB0.size;clear hW0;refine zF rfl (RI W0 (W0.heap.size) _ 51
   [VSl 0 16 g n cap,VP 1 17 w.heap.size 0,VN 2 18 r,VP 3 19 g r,VSl 4 20 br Cs Cs,VP 5 21 w.heap.size 1,VN 6 22 c,VP 7 23 br (c*2),EI 8 24 (X),VSl 9 25 g n cap,VN 10 26 m,VP 11 27 g m,VSl 12 28 bm Cs Cs,VP 13 29 w.heap.size 1,VN 14 30 c,VP 15 31 bm (c*2),EI 16 32 (Y)] [⟨17,8,19,fun w v=>zR w v (X)⟩,⟨18,9,20,fun w v=>zR w v (Y)⟩] []) kR RI.start ?fin1 ?steps1
 case steps1=>
  refine⟨?_,?_,?_,?_,?_,?_,?_,?_,?_,?_,?_,?_,?_,?_,?_,?_,?_,?_,?_,?_,?_,trivial⟩<;>(intro L T wS hL hd hcl hI K hK;try refine zA rfl ?_)
  ·exact xgs (hI.k 0 rfl kR)
  ·exact xgs (hI.k 5 rfl kR)
  ·have zt1:=hI.e mm1 (hd 1)
   have cc0:=hI.cell p1 oM nom;exact xgu
  ·exact xgt (hI.e mm0 (hd 0)) (hI.e mm2 (hd 2))
  ·have zt3:=hI.e mm3 (hd 3)
   have cc0:=hI.cell o1 oM nom;exact xgu
  ·exact xgs (hI.k 5 rfl kR)
  ·have zt5:=hI.e mm5 (hd 5)
   have cc0:=hI.cell p2 oM nom;exact xgu
  ·exact xgt (hI.e mm4 (hd 4)) (hI.e mm6 (hd 6))
  ·have zt7:=hI.e mm7 (hd 7)
   have cc0:=hI.cell q1 oM nom;have cc1:=hI.cell q2 oM nom;go_simp;exact hK _ _ (hI.n mm8 (hxv.ext hI.lext))
  ·exact xgs (hI.k 0 rfl kR)
  ·exact xgs (hI.k 2 rfl kR)
  ·exact xgt (hI.e mm9 (hd 9)) (hI.e yD (hd 10))
  ·have zt11:=hI.e zAB (hd 11)
   have cc0:=hI.cell o2 oM nom;exact xgu
  ·exact xgs (hI.k 5 rfl kR)
  ·have zt13:=hI.e zBv (hd 13)
   have cc0:=hI.cell p2 oM nom;exact xgu
  ·exact xgt (hI.e zAh (hd 12)) (hI.e zBF (hd 14))
  ·have zt15:=hI.e zCN (hd 15)
   have cc0:=hI.cell q3 oM nom;have cc1:=hI.cell q4 oM nom;go_simp;exact hK _ _ (hI.n zCf (hyv.ext hI.lext))
  ·go_simp
   exact hK _ _ (hI.alloc ⟨17,8,19,_⟩ mm0 rfl hL)
  ·go_simp
   exact hK _ _ (hI.alloc ⟨18,9,20,_⟩ mm1 rfl hL)
  ·obtain⟨v,t1,hv⟩:=hI.vi mm8 (hd 8)
   obtain⟨b,x,y,t2,hb1,hb2,-⟩:=hI.box _ mm0 (hd 17);obtain⟨vneg,vao,vlen,vcap,vls,rfl,hv'⟩:=id hv;have HT:=xgw t2;unfold ptr at t2;obtain⟨k1,k2,k3,k4⟩:=hb2.two;go_simp;exact hK _ _ (hI.store ⟨17,8,19,_⟩ mm0 rfl (hd 17) HT.out hv)
  ·obtain⟨v,t1,hv⟩:=hI.vi zCf (hd 16)
   obtain⟨b,x,y,t2,hb1,hb2,-⟩:=hI.box _ mm1 (hd 18);obtain⟨vneg,vao,vlen,vcap,vls,rfl,hv'⟩:=id hv;have HT:=xgw t2;unfold ptr at t2;obtain⟨k1,k2,k3,k4⟩:=hb2.two;go_simp;exact hK _ _ (hI.store ⟨18,9,20,_⟩ mm1 rfl (hd 18) HT.out hv)
 intro T w3 hI;have hT:=hI.finx kR kR;have hlw3:=hI.lext;have hbw3:=hI.bel (W0.heap.size) oM nom;have holdw3:=hI.old;clear hI;simp only[zE3,zEz,E,EI,ptr,xgm,List.not_mem_nil,false_implies,implies_true,and_true,true_and,xgg,xgh,xgi,xgj]at hT;obtain⟨va8,ha8,va16,ha16,ca17,xa17,ya17,ga17,ka17,ia17,ca18,xa18,ya18,ga18,ka18,ia18,na17_18,rfl⟩:=hT;have hO:=hO.trans (zM.of Z hbw3);have HH:=xgv (HH.out.below hbw3);have T5:=T5.below hbw3;have T7:=T7.below hbw3;have z8:=jS.mk ka17 ia17;have z9:=jS.mk ka18 ia18;have q3z:=hbw3.size;clear o1 o2 q1 q2 q3 q4 hxv hyv p1 p2 p3 p4 ka17 ka18 ia17 ia18 ha8 ha16;obtain⟨n8,a8,l8,c8,k8,i8⟩:=id z8;obtain⟨n9,a9,l9,c9,k9,i9⟩:=id z9;obtain⟨e1,e2,e3,e4⟩:=k8.two;obtain⟨f1,f2,f3,f4⟩:=k9.two;go_wp2_with fail
 refine(zBK _ _ Y X w3 i9.weak i8.weak SY.out.sm SX.out.sm h0).mono ?_;rintro e w4 ⟨q0,r0,rfl,hq,hrr,hb4⟩;obtain⟨qn,qa,ql,qc,qx,rfl,hq'⟩:=id hq;obtain⟨rn,ra,rl,rc,rx,rfl,hr'⟩:=id hrr;have HQ':=xgw hq';have HR':=xgw hr';clear hq' hr' e1 e2 e3 e4 f1 f2 f3 f4 k8 k9 i8 i9;go_upto_region 3 with(fail)
 refine zC ?_;intro W5 hW5;obtain⟨hB5,T10,T11,hs5⟩:=qK hW5;have hb45:=nx hb4 hB5;have hO:=hO.trans (zM.of Z hb45);have HH:=xgv (HH.out.below hb45);have T5:=T5.below hb45;have T7:=T7.below hb45;have z8:=z8.below hb45;have z9:=z9.below hb45;have hq:=hq.ext (lx hB5);have hrr:=hrr.ext (lx hB5);have q5z:=hb45.size;clear hW5 hb45;obtain⟨e1,e2,e3,e4⟩:=T11.two;go_wp2_with fail
 refine(jE _ (Y%X) W5 hrr.weak).mono ?_;rintro e w6 ⟨rfl,hb6⟩;have hO:=hO.trans (zM.of Z hb6);have HH:=xgv (HH.out.below hb6);have T5:=T5.below hb6;have T7:=T7.below hb6;have T10:=T10.below hb6;have z8:=z8.below hb6;have z9:=z9.below hb6;have hq:=hq.ext (lx hb6);have q6z:=hb6.size;have q4z:=hb4.size;clear e1 e2 e3 e4 T11 hrr;by_cases hdiv:Y%X=0
 ·rw[jT hdiv]
  obtain⟨x1,x2,x3,x4,x5,x6⟩:=T7.three;obtain⟨p1,p2,p3,p4⟩:=T5.two;obtain⟨d1,d2,d3,d4⟩:=T10.two;have l5:=T5.lt;have l7:=T7.lt;have l10:=T10.lt;have hqs:qM (Sm (Y/X)):=⟨SY.out.sm.mono (Int.natAbs_ediv_le_natAbs Y X)⟩;go_upto_region 4 with(fail)
  refine zB 7 rfl (RI w6 (w6.heap.size) _ 51
    [VP 0 43 (w.heap.size+1) 0,E 1 44 (.func (.func 125) #[.pointer (some ⟨bw,0,none⟩)] #[]),VN 2 45 m,VP 3 46 w.heap.size 0,VN 4 47 r,E 5 48 (.agg #[.bool qn,.slice qa ql qc]),EI 6 49 (-(Y/X))] [] []) kR RI.start (RI.fin kR ?fin2) ?steps2
  case steps2=>
   refine⟨?_,?_,?_,?_,?_,?_,?_,trivial⟩<;>(intro L T wS hL hd hcl hI K hK;try refine zA rfl ?_)
   ·exact xgs (hI.k 7 rfl kR)
   ·have zt0:=hI.e mm0 (hd 0)
    have cc0:=hI.cell x1 oM nom;exact xgu
   ·exact xgs (hI.k 2 rfl kR)
   ·exact xgs (hI.k 5 rfl kR)
   ·have zt3:=hI.e mm3 (hd 3)
    have cc0:=hI.cell p1 oM nom;exact xgu
   ·have zt:=hI.k 10 rfl kR
    have cc0:=hI.cell d1 oM nom;have cc1:=hI.cell d2 oM nom;exact xgu
   ·have zt5:=hI.e mm5 (hd 5)
    go_simp;refine(jR _ (Y/X) _ (hq.ext hI.lext).weak hqs.out).mono ?_;exact xgo
  intro w7 hlw7 hbw7 holdw7 T hT;simp only[Fin,E,EI,VP,VSl,VN,xgg,xgh,xgi,xgj]at hT;obtain⟨vb6,hb6,rfl⟩:=hT;simp only[xgl,xgk];have hb6':zR w7 vb6 (-(Y/X)):=hb6;have hO:=hO.trans (zM.of Z hbw7);have HH:=xgv (HH.out.below hbw7);have HAD':=xgv (HAD.out hdiv);clear x1 x2 x3 x4 x5 x6 p1 p2 p3 p4 d1 d2 d3 d4;go_wp2_with fail
  refine(zP8 hB.bsm HH.out HOK.out hm hr (Ne.symm hrm) hb6' hn hCs hCt HAD'.out).mono ?_;rintro e w8 ⟨⟨uu,rfl⟩,ho8,hH8⟩;go_wp2;have hJ:zIq x r m c (x.add m r (-(Y/X))):=by
   rw[<-HXV.out,<-HYV.out];exact .add (by rw[HXV.out,HYV.out];exact hdiv)
  exact bodyPost_ret (results_none rfl _ _ _) rfl ⟨⟨_,rfl⟩,hO.trans ho8,_,hJ,hH8⟩
 ·have hcne:=zBp hdiv
  obtain⟨k0,hk0⟩:∃k0,qO (Y%X) 0=k0:=⟨_,rfl⟩;rw[hk0]at hcne ⊢
  have hcb:(k0==0)=false:=by simpa using hcne
  obtain⟨G,hG⟩:∃G:Int,((Int.gcd X Y:Nat):Int)=G:=⟨_,rfl⟩;have hG0:G≠0:=by
   rw[<-hG];intro hh;have:Int.gcd X Y=0:=by omega
   exact h0 (Int.eq_zero_of_gcd_eq_zero_left this)
  have SG:qM (Smd G):=⟨SX.out.mono (by rw[<-hG];exact Nat.le_of_dvd oM (by have:=Int.gcd_dvd_left X Y;exact Int.natAbs_dvd_natAbs.2 this))⟩;have HG:=xgw hG;rw[hG]at HMX;clear hG T10 hq;have lz8:=z8.lt;have lz9:=z9.lt;obtain⟨n8,a8,l8,c8,k8,i8⟩:=id z8;obtain⟨n9,a9,l9,c9,k9,i9⟩:=id z9;obtain⟨e1,e2,e3,e4⟩:=k8.two;obtain⟨f1,f2,f3,f4⟩:=k9.two;go_wp2_with fail
  refine(zNg _ _ X Y w6 i8 i9 SX.out SY.out).mono ?_;rintro e w7 ⟨v1,v2,v3,s,t,rfl,hgv,hsv,htv,hbez,hsb,htb,hb7⟩;have HBZ:qM (Bez X Y s t):=⟨⟨hbez,hsb,htb⟩⟩;have HMM:=xgv (HMX.out s t HBZ.out);rw[HG.out]at hgv;obtain⟨gn,ga,gl,gc,gx,rfl,hg'⟩:=id hgv;obtain⟨sn,sa,sl,sc',sx,rfl,hs'⟩:=id hsv;obtain⟨tn,ta,tl,tc,tx,rfl,ht'⟩:=id htv;have HG':=xgw hg';have HS':=xgw hs';have HT':=xgw ht';clear hg' hs' ht' hbez hsb htb e1 e2 e3 e4 f1 f2 f3 f4 k8 k9 i8 i9;go_upto_region 6 with(fail)
  refine zC ?_;intro W8 hW8;obtain⟨hB8,T13,T14,T15,hs8⟩:=zAS hW8;have hb78:=nx hb7 hB8;have hO:=hO.trans (zM.of Z hb78);have HH:=xgv (HH.out.below hb78);have T5:=T5.below hb78;have T7:=T7.below hb78;have z8:=z8.below hb78;have z9:=z9.below hb78;have z13:=jS.mk T13 (hgv.ext (lx hB8));have z14:=jS.mk T14 (hsv.ext (lx hB8));have z15:=jS.mk T15 (htv.ext (lx hB8));have q8z:=hb78.size;have q7z:=hb7.size;clear hW8 T13 T14 T15 hgv hsv htv;obtain⟨n8,a8,l8,c8,k8,i8⟩:=id z8;obtain⟨n13,a13,l13,c13,k13,i13⟩:=id z13;obtain⟨e1,e2,e3,e4⟩:=k8.two;obtain⟨f1,f2,f3,f4⟩:=k13.two;have lk8:=k8.lt;go_wp2_with fail
  refine(zBK _ _ X G W8 i8.weak i13.weak SX.out.sm SG.out.sm hG0).mono ?_;rintro e w9 ⟨q0,r0,rfl,hq,hrr,hb9⟩;obtain⟨qn,qa,ql,qc,qx,rfl,hq'⟩:=id hq;have HQ':=xgw hq';clear hq' e1 e2 e3 e4 f1 f2 f3 f4 k13 i13;have k8:=k8.below hb9;obtain⟨e1,e2,e3,e4⟩:=k8.two;go_upto_region 7 with(fail)
  refine zC ?_;intro W10 hW10;have hon:yQ [ca17] w9 W10:=by rw[hW10.out];exact zIV k8
  have hnz:¬ Z ca17:=fun h=>by have:=hZ _ h;omega
  have hO:=(hO.trans (zM.of Z hb9)).new hon oM;have HH:=xgv ((HH.out.below hb9).only hon hnz k8);have z8:jS W10 ca17 (X/G):=by rw[hW10.out];exact jS.put k8 hq
  have T5:Blk W10 w.heap.size zAf #[.int .i64 r,.int .i64 c]:=(hon.old _ (T5.below hb9).lt (by simp;omega)).trans (T5.below hb9);have T7:Blk W10 (w.heap.size+1) 143 (zAx bw):=(hon.old _ (T7.below hb9).lt (by simp;omega)).trans (T7.below hb9);have z9:=(z9.below hb9).old (hon.old _ (z9.below hb9).lt (by simpa using Ne.symm na17_18)) hon.lext;have z13:=(z13.below hb9).old (hon.old _ (z13.below hb9).lt (by simp;omega)) hon.lext;have z14:=(z14.below hb9).old (hon.old _ (z14.below hb9).lt (by simp;omega)) hon.lext;have z15:=(z15.below hb9).old (hon.old _ (z15.below hb9).lt (by simp;omega)) hon.lext;have q10z:=hon.bel.size;have q9z:=hb9.size;clear hW10 hon e1 e2 e3 e4 k8 hq hrr i8;obtain⟨n9,a9,l9,c9,k9,i9⟩:=id z9;obtain⟨n13,a13,l13,c13,k13,i13⟩:=id z13;obtain⟨e1,e2,e3,e4⟩:=k9.two;obtain⟨f1,f2,f3,f4⟩:=k13.two;have lk9:=k9.lt;go_wp2_with fail
  refine(zBK _ _ Y G W10 i9.weak i13.weak SY.out.sm SG.out.sm hG0).mono ?_;rintro e w11 ⟨q0,r0,rfl,hq,hrr,hb11⟩;obtain⟨qn,qa,ql,qc,qx,rfl,hq'⟩:=id hq;have HQ':=xgw hq';clear hq' e1 e2 e3 e4 f1 f2 f3 f4 k13 i13;have k9:=k9.below hb11;obtain⟨e1,e2,e3,e4⟩:=k9.two;go_upto_region 8 with(fail)
  refine zC ?_;intro W12 hW12;have hon:yQ [ca18] w11 W12:=by rw[hW12.out];exact zIV k9
  have hnz:¬ Z ca18:=fun h=>by have:=hZ _ h;omega
  have hO:=(hO.trans (zM.of Z hb11)).new hon oM;have HH:=xgv ((HH.out.below hb11).only hon hnz k9);have z9:jS W12 ca18 (Y/G):=by rw[hW12.out];exact jS.put k9 hq
  have T5:Blk W12 w.heap.size zAf #[.int .i64 r,.int .i64 c]:=(hon.old _ (T5.below hb11).lt (by simp;omega)).trans (T5.below hb11);have T7:Blk W12 (w.heap.size+1) 143 (zAx bw):=(hon.old _ (T7.below hb11).lt (by simp;omega)).trans (T7.below hb11);have z8:=(z8.below hb11).old (hon.old _ (z8.below hb11).lt (by simpa using na17_18)) hon.lext;have z14:=(z14.below hb11).old (hon.old _ (z14.below hb11).lt (by simp;omega)) hon.lext;have z15:=(z15.below hb11).old (hon.old _ (z15.below hb11).lt (by simp;omega)) hon.lext;clear hW12 hon e1 e2 e3 e4 k9 hq hrr i9 z13;have SYG:qM (Sm (Y/G)):=⟨SY.out.sm.mono (Int.natAbs_ediv_le_natAbs Y G)⟩;obtain⟨n8,a8,l8,c8,k8,i8⟩:=id z8;obtain⟨n9,a9,l9,c9,k9,i9⟩:=id z9;obtain⟨n14,a14,l14,c14,k14,i14⟩:=id z14;obtain⟨n15,a15,l15,c15,k15,i15⟩:=id z15;obtain⟨e1,e2,e3,e4⟩:=k8.two;obtain⟨f1,f2,f3,f4⟩:=k9.two;obtain⟨u1,u2,u3,u4⟩:=k14.two;obtain⟨v1,v2,v3,v4⟩:=k15.two;obtain⟨x1,x2,x3,x4,x5,x6⟩:=T7.three;obtain⟨p1,p2,p3,p4⟩:=T5.two;have l5:=T5.lt;have l7:=T7.lt;have l8':=k8.lt;have l9':=k9.lt;have l14':=k14.lt;have l15':=k15.lt;have hl2:=zCD s t;have hl3:=zCD (-(Y/G)) (X/G);have hl4:=zFq s t (-(Y/G)) (X/G);refine zB 13 rfl (RI W12 (W12.heap.size) _ 51
    [VP 0 72 (w.heap.size+1) 1,E 1 73 (.func (.func 126) #[.pointer (some ⟨bw,0,none⟩)] #[]),VP 2 74 w.heap.size 0,VN 3 75 r,VN 4 76 m,E 5 77 (.agg #[.bool n14,.slice a14 l14 c14]),E 6 78 (.agg #[.bool n15,.slice a15 l15 c15]),⟨7,79,M2V s t⟩,E 8 80 (.agg #[.bool n9,.slice a9 l9 c9]),EI 9 81 (-(Y/G)),E 10 82 (.agg #[.bool n8,.slice a8 l8 c8]),⟨11,83,M2V (-(Y/G)) (X/G)⟩,⟨12,84,fun w v=>M4V w v s t (-(Y/G)) (X/G)⟩] [] []) kR RI.start (RI.fin kR ?fin3) ?steps3
  case steps3=>
   refine⟨?_,?_,?_,?_,?_,?_,?_,?_,?_,?_,?_,?_,?_,trivial⟩<;>(intro L T wS hL hd hcl hI K hK;try refine zA rfl ?_)
   ·exact xgs (hI.k 7 rfl kR)
   ·have zt0:=hI.e mm0 (hd 0)
    have cc0:=hI.cell x2 oM nom;exact xgu
   ·exact xgs (hI.k 5 rfl kR)
   ·have zt2:=hI.e mm2 (hd 2)
    have cc0:=hI.cell p1 oM nom;exact xgu
   ·exact xgs (hI.k 2 rfl kR)
   ·have zt:=hI.k 14 rfl kR
    have cc0:=hI.cell u1 oM nom;have cc1:=hI.cell u2 oM nom;exact xgu
   ·have zt:=hI.k 15 rfl kR
    have cc0:=hI.cell v1 oM nom;have cc1:=hI.cell v2 oM nom;exact xgu
   ·have zt5:=hI.e mm5 (hd 5)
    have zt6:=hI.e mm6 (hd 6);skip;go_simp;exact hK _ _ (hI.y mm7 ⟨_,_,_,_,_,_,_,_,rfl,i14.ext hI.lext,i15.ext hI.lext⟩)
   ·have zt:=hI.k 9 rfl kR
    have cc0:=hI.cell f1 oM nom;have cc1:=hI.cell f2 oM nom;exact xgu
   ·have zt8:=hI.e mm8 (hd 8)
    go_simp;refine(jR _ (Y/G) _ (i9.ext hI.lext).weak SYG.out).mono ?_;exact xgo
   ·have zt:=hI.k 8 rfl kR
    have cc0:=hI.cell e1 oM nom;have cc1:=hI.cell e2 oM nom;exact xgu
   ·obtain⟨v9,zt9,h9⟩:=hI.vi mm9 (hd 9)
    have zt10:=hI.e yD (hd 10);obtain⟨a19,b19,d19,e19,x19,rfl,y19⟩:=id h9;go_simp;exact hK _ _ (hI.y zAB ⟨_,_,_,_,_,_,_,_,rfl,h9,i8.ext hI.lext⟩)
   ·obtain⟨v7,zt7,h7⟩:=hI.v mm7 (hd 7)
    obtain⟨v11,zt11,h11⟩:=hI.v zAB (hd 11);obtain⟨p0,p1,p2,p3,p4,p5,p6,p7,rfl,p8,p9⟩:=h7;obtain⟨q0,q1,q2,q3,q4,q5,q6,q7,rfl,q8,q9⟩:=h11;go_simp;exact hK _ _ (hI.y zAh ⟨_,_,_,_,_,_,_,_,_,_,_,_,_,_,_,_,rfl,p8,p9,q8,q9⟩)
  intro w13 hlw13 hbw13 holdw13 T hT;simp only[Fin,E,EI,VP,VSl,VN,xgg,xgh,xgi,xgj]at hT;obtain⟨vb7,hb7,vb9,hb9,vb11,hb11,vb12,hb12,rfl⟩:=hT;simp only[xgl,xgk];have hm4:M4V w13 vb12 s t (-(Y/G)) (X/G):=hb12;have hO:=hO.trans (zM.of Z hbw13);have HH:=xgv (HH.out.below hbw13);clear e1 e2 e3 e4 f1 f2 f3 f4 u1 u2 u3 u4 v1 v2 v3 v4 x1 x2 x3 x4 x5 x6 p1 p2 p3 p4;go_wp2_with fail
  refine(zQa hB.bsm HH.out HOK.out hr hm hrm hm4 hn hCs hCt HMM.out).mono ?_;rintro e w14 ⟨⟨uu,rfl⟩,ho14,hH14⟩;go_wp2;have hJ:zIq x r m c (x.mix r m s t (-(Y/G)) (X/G)):=by
   rw[<-HG.out,<-HXV.out,<-HYV.out];exact .mix s t (by rw[HXV.out,HYV.out];exact hdiv) (by rw[HXV.out,HYV.out];exact HBZ.out)
  exact bodyPost_end (results_none rfl _ _ _) rfl ⟨⟨_,rfl⟩,hO.trans ho14,_,hJ,hH14⟩
end Go.Proofs.YtgnmdddaiefooaaGreat
