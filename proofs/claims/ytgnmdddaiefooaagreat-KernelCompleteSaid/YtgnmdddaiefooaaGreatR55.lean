/- torsionlaw15.KernelComplete: whatever the input, it returns true, and the input reads as it did. No conditions. -/
import Derived.ChangeArms
import Derived.ProofKit
import Derived.OpenShut
import Derived.Test.YtgnmdddaiefooaaGreatRows
import Derived.Test.YtgnmdddaiefooaaGreatR41
import Derived.Test.YtgnmdddaiefooaaGreatR43
import Derived.Test.YtgnmdddaiefooaaGreatR54
set_option linter.unusedVariables false
set_option linter.unusedSimpArgs false
set_option linter.unusedSectionVars false
set_option maxHeartbeats 16000000
set_option maxRecDepth 100000
namespace Go.Proofs.YtgnmdddaiefooaaGreat
open Go.RowKit
theorem zFy{W w:World}(h:yQ [] W w):Below W.heap.size W w:=⟨h.bel.os,h.bel.tape,h.bel.output,h.bel.size,fun k hk=>h.old k hk sI⟩
theorem zC0(v lv:Value)(r c:Nat)(ls l1:List Int)(w:World)(h:I8V w v ls)(hl:I8V w lv l1)(hr:r<=255)(hc:c<=255):
  Calls Tryz.prog 4 #[.agg #[.int .u8 r,.int .u8 c,v],lv] w fun e w'=>e= .returned (.bool true)/\Below w.heap.size w w':=by
 obtain⟨ao,n,cap,rfl,-,-,-,-,-⟩:=id h;obtain⟨R,hR⟩:∃R:Nat,R=r%5:=⟨_,rfl⟩;obtain⟨C,hC⟩:∃C:Nat,C=c%5:=⟨_,rfl⟩;have hR4:R<=4:=by omega
 have hC4:C<=4:=by omega
 have HR:=xgw hR;have HC:=xgw hC;clear hR hC;obtain⟨M,hM⟩:∃M,genM R C (zDN C ls)=M:=⟨_,rfl⟩;have HMade:qM (∀w,I8V w (.slice ao n cap) ls->Calls Tryz.prog 14 #[.agg #[.int .u8 r,.int .u8 c,.slice ao n cap]] w fun e w'=>∃v,e= .returned v/\qL w' v R C M/\Below w.heap.size w w'):=⟨fun w h=>by
  rw[<-hM];exact zPf _ r c ls w h hr hc R C HR.out HC.out⟩
 have HF:qM (yG R C M):=⟨by rw[<-hM];exact zV _ _ _⟩;have HA9:qM (leM 9 R C (ent M)):=⟨by rw[<-hM];exact zBE (zLt R C C ls)⟩;clear hM;obtain⟨lo,ln,lc,rfl,-,-,-,-,-⟩:=id hl;obtain⟨x,hx0⟩:∃x:Nat->Int,zDN R l1 0=x:=⟨_,rfl⟩;have HVE:qM (∀w,I8V w (.slice lo ln lc) l1->Calls Tryz.prog 24 #[.slice lo ln lc,.int .i64 R] w fun e w'=>∃u,e= .returned u/\zAZ w' u (zQ R x)/\Below w.heap.size w w'):=⟨fun w h=>hx0 ▸ zJj _ R l1 w h oM⟩;have HX9:qM (∀b,(x b).natAbs<=9):=⟨fun b=>hx0 ▸ zHL R l1 0 b⟩;have HXD:qM (∀n t,zDN n l1 0 t=x t):=⟨fun n t=>by rw[<-hx0];unfold zDN;rw[Nat.zero_mul,Nat.zero_mul]⟩;clear hx0;obtain⟨N1,hN1⟩:∃N1:Nat,R+1=N1:=⟨_,rfl⟩;have HN1:=xgv hN1;have hN5:N1<=5:=by omega
 have hRN:R<N1:=by omega
 clear hN1;go_enter Tryz.func4,Tryz.ntmps4;go_upto_region 1 with(fail)
 refine zC ?_;intro W0 hW0;obtain⟨hB0,bx,hs0⟩:=zN hW0;clear hW0;go_wp2_with fail
 refine(zGz W0).mono ?_;rintro e w1 ⟨rfl,hb1⟩;have hB:=nx hB0 hb1;have bx:=bx.below hb1;obtain⟨c1,c2,c3,c4,c5,c6⟩:=bx.three;go_wp2_with fail
 refine(HMade.out w1 (h.below hB)).mono ?_;rintro e w2 ⟨va,rfl,hm,hb2⟩;obtain⟨ro,rn,rc,rfl⟩:=hm.agg;have hB:=nx hB hb2;clear c1 c2 c3 c4 c5 c6 bx;go_upto_region 3 with(fail)
 refine zC ?_;intro W3 hW3;obtain⟨hB3,T6,hs3⟩:=zN hW3;have HM:=xgv (hm.below hB3);have hB:=nx hB hB3;clear hW3 hm;obtain⟨c1,c2,c3,c4,c5,c6⟩:=T6.three;go_wp2_with fail
 refine(HVE.out W3 (hl.below hB)).mono ?_;rintro e w4 ⟨xv,rfl,hx,hb4⟩;obtain⟨xo,xn,xc,rfl,-⟩:=id hx;have HM:=xgv (HM.out.below hb4);have T6:=T6.below hb4;have hB:=nx hB hb4;clear c1 c2 c3 c4 c5 c6;obtain⟨c1,c2,c3,c4,c5,c6⟩:=T6.three;go_wp2_with fail
 refine(zNP _ _ R C M x w4 hx HM.out HF.out oM oM (zKg hR4 HA9.out HX9.out)).mono ?_;rintro e w5 ⟨yv,rfl,hy,hb5⟩;obtain⟨yo,yn,yc,rfl,-⟩:=id hy;have HM:=xgv (HM.out.below hb5);have HY:=xgv hy;have T6:=T6.below hb5;have hB:=nx hB hb5;clear c1 c2 c3 c4 c5 c6 hx hy;obtain⟨c1,c2,c3,c4,c5,c6⟩:=T6.three;go_upto_region 5 with(fail)
 have hLB:=zI4 28 w5.heap.size #[.int .i64 0,.int .i64 0,.slice none 0 0];have hLP:=zHX (N1:Int) C (M++ [zQ C (zAT [zQ R x] M R 0)]);have lT:=T6.lt;have hFY:yG 1 C [zQ C (zAT [zQ R x] M R 0)]:=⟨rfl,fun r hr=>by rw[List.mem_singleton.1 hr,zE]⟩;have hS1:qM (∀r∈M,∀z∈r,Sm z):=⟨zGr (h:=9) (e:=5) dE dE HF.out HA9.out⟩;have hS2:qM (∀r∈ [zQ C (zAT [zQ R x] M R 0)],∀z∈r,Sm z):=⟨fun r hr z hz=>by
  obtain rfl:=List.mem_singleton.1 hr;obtain⟨b,hb,rfl⟩:=List.mem_map.1 hz;rw[List.mem_range]at hb;exact zAi (zFU (Nat.le_trans (zFw HA9.out HX9.out hb (xgf R)) (Nat.le_trans (show R*81<=1000 by omega) dE)))⟩
 refine zB 9 rfl (RAS ([]) 99 w5 _ [⟨0,27,fun _ v=>v= .agg #[.int .i64 R,.int .i64 C,.slice ro rn rc]⟩,⟨1,28,fun _ v=>v= .slice yo yn yc⟩,⟨2,29,fun w v=>qL w v (1:Nat) C [zQ C (zAT [zQ R x] M R 0)]⟩,⟨3,30,zNK (N1:Int) C (M++ [zQ C (zAT [zQ R x] M R 0)])⟩,⟨4,26,zNK (N1:Int) C (M++ [zQ C (zAT [zQ R x] M R 0)])⟩,⟨5,31,fun w v=>qL w v (N1:Int) C (M++ [zQ C (zAT [zQ R x] M R 0)])⟩,⟨6,32,fun _ v=>v= .int .i64 0⟩,⟨7,9,zP5 28 w5.heap.size #[.int .i64 0,.int .i64 0,.slice none 0 0]⟩] 8 (put3 9 31)) kR (RAS.start (RA.start kR (by repeat' (first|exact zCC _|exact zC2 _|exact yW _ _ _|exact zDS _|assumption|refine xgm.2 ⟨?_,?_⟩|exact xgn _)))) ?fin1 ?steps1
 case steps1=>
  refine⟨?_,?_,?_,?_,?_,?_,?_,?_,?_,trivial⟩
  ·refine yU.liftA kR dE ?_
   intro L T wS hL hd hcl hI K hK;try refine zA rfl ?_
   have zt:T[6]?=some (.pointer (some ⟨w2.heap.size,0,none⟩)):=hI.keep 6 sI;have cc0:=hI.cell (sI) oM c1;have cc1:=hI.cell (sI) oM c2;have cc2:=hI.cell (sI) oM c3;go_simp;exact hK _ _ (hI.y mm0 rfl)
  ·refine yU.liftA kR dE ?_
   intro L T wS hL hd hcl hI K hK;try refine zA rfl ?_
   have zt:T[8]?=some (.slice yo yn yc):=hI.keep 8 sI;go_simp;exact hK _ _ (hI.y mm1 rfl)
  ·refine yU.liftA kR dE ?_
   intro L T wS hL hd hcl hI K hK;try refine zA rfl ?_
   obtain⟨_,zt1,rfl⟩:=hI.v mm1 (hd 1);have hbS:=zFy hI.onl;go_simp;refine(zLE _ C _ wS (HY.out.below hbS)).mono ?_;rintro e wa ⟨v,rfl,hv,hba⟩;exact hK _ _ ((hI.world hba).y mm2 hv)
  ·refine yU.liftA kR dE ?_
   intro L T wS hL hd hcl hI K hK;try refine zA rfl ?_
   obtain⟨_,zt0,rfl⟩:=hI.v mm0 (hd 0);obtain⟨z2,zt2,hz2⟩:=hI.v mm2 (hd 2);have hbS:=zFy hI.onl;go_simp;refine(zG4 _ _ R 1 C M _ wS (HM.out.below hbS).off (qL.off hz2) HF.out hFY oM oM oM hS1.out hS2.out).mono ?_;rintro e wa ⟨v,rfl,hv,hba⟩;exact hK _ _ ((hI.world hba).y mm3 ⟨v,rfl,HN1.out ▸ hv⟩)
  ·refine yU.liftA kR dE ?_
   intro L T wS hL hd hcl hI K hK;try refine zA rfl ?_
   obtain⟨z3,zt3,hz3⟩:=hI.v mm3 (hd 3);go_simp;exact hK _ _ (hI.y mm4 hz3)
  ·refine yU.liftA kR dE ?_
   intro L T wS hL hd hcl hI K hK;try refine zA rfl ?_
   obtain⟨z4,zt4,hz4⟩:=hI.v mm4 (hd 4);obtain⟨u,rfl,hu⟩:=hz4;go_simp;exact hK _ _ (hI.y mm5 hu)
  ·intro L T wS hL hd hcl hI K hK
   try refine zA rfl ?_
   obtain⟨w0,hJ,-,-⟩:=id hI;obtain⟨z4,zt4,hz4⟩:=hJ.val _ mm4 (hd 4);obtain⟨u,rfl,hu⟩:=hz4;go_simp;exact hK _ _ (hI.pure ⟨6,32,_⟩ mm6 rfl (fun _=>rfl) dE (fun _=>zMP dE dE))
  ·refine yU.liftA kR dE ?_
   intro L T wS hL hd hcl hI K hK;try refine zA rfl ?_
   go_simp;exact hK _ _ ((hI.world ((Below.refl _ _).alloc (xgf _) _)).y mm7 ⟨_,rfl,hI.onl.bel.size,Blk.new _ _ _⟩)
  ·intro L T wS hL hd hcl hI K hK
   try refine zA rfl ?_
   replace hI:=hI.here hL;obtain⟨z11,zt11,hz11⟩:=hI.v mm5 (hd 5);obtain⟨z13,zt13,hz13⟩:=hI.v mm7 (hd 7);obtain⟨Av,rfl,hrv⟩:=hz11;obtain⟨vo,vn,vc,rfl,-,-,-,-⟩:=hrv;obtain⟨b7,rfl,-,T7⟩:=hz13;obtain⟨f1,f2,f3,f4,f5,f6⟩:=T7.three;go_simp;exact hK _ _ (RAS.store hI hL (by repeat' (first|exact xgn _|refine xgm.2 ⟨by dsimp only;decide,?_⟩)) dE (zKx zt13 zt11).symm)
 intro T w8f hJ;obtain⟨w8,hI,-,hstw8⟩:=hJ;replace hstw8:=hstw8 kR;obtain⟨va0,q0,rfl⟩:=hI.v mm0 rfl;obtain⟨va1,q1,rfl⟩:=hI.v mm1 rfl;obtain⟨va2,q2,ha2⟩:=hI.v mm2 rfl;obtain⟨va3,q3,ha3⟩:=hI.v mm3 rfl;obtain⟨va4,q4,ha4⟩:=hI.v mm4 rfl;obtain⟨va5,q5,ha5⟩:=hI.v mm5 rfl;obtain⟨va6,q6,rfl⟩:=hI.v mm6 rfl;obtain⟨va7,q7,ha7⟩:=hI.v mm7 rfl;have hT:=zEC [(27,.agg #[.int .i64 R,.int .i64 C,.slice ro rn rc]),(28,.slice yo yn yc),(29,va2),(30,va3),(26,va4),(31,va5),(32,.int .i64 0),(9,va7)]
  (fun j hj=>hI.keep j (by simp only[xgm]at hj ⊢;simp[hj]))
  (by simp only[xgm];simp[q0,q1,q2,q3,q4,q5,q6,q7]) hI.size
 have how8:=hI.onl;clear hI;simp only[List.foldl_cons,List.foldl_nil,xgh,xgi,xgj,ptr]at hT;subst hT;clear q0 q1 q2 q3 q4 q5 q6 q7;simp only[xgl,xgk];have hbw8:=zFy how8;replace ha5:qL w8 va5 (N1:Int) C (M++ [zQ C (zAT [zQ R x] M R 0)]):=ha5;obtain⟨Av,rfl,hrv⟩:=id ha5;obtain⟨vo,vn,vc,rfl,hvl,-,-,-⟩:=id hrv;obtain⟨b9,rfl,hb9,T9⟩:=ha7;have q8:=hbw8.size;have hw9:=hstw8.trans (zKx rfl rfl);have T99:Blk w8f b9 28 #[.int .i64 (N1:Int),.int .i64 C,.slice vo vn vc]:=by rw[hw9];exact T9.put3 _ _ _
 have hm9:qL w8f (.agg #[.int .i64 (N1:Int),.int .i64 C,.slice vo vn vc]) (N1:Int) C (M++ [zQ C (zAT [zQ R x] M R 0)]):=by
  rw[hw9];exact ha5.keep3 T9 _ _ _
 have hb59:Below w5.heap.size w5 w8f:=by
  rw[hw9];exact zP (zP (zP hbw8 oM 0 _) oM 1 _) oM 2 _
 obtain⟨hFB0,hAB0,hB10,hB20⟩:=zO8 HF.out HA9.out hR4 HX9.out;obtain⟨B,hBe⟩:∃B,M++ [zQ C (zAT [zQ R x] M R 0)]=B:=⟨_,rfl⟩;rw[hBe]at hm9 hFB0 hAB0 hB10 hB20;rw[HN1.out]at hFB0 hAB0;have HFB:=xgv hFB0;have HAB:=xgv hAB0;have HB1:=xgv hB10;have HB2:=xgv hB20;have HBM:=xgv hm9;have T6:=T6.below hb59;have hB:=nx hB hb59;clear hFB0 hAB0 hB10 hB20 hm9 ha5 hrv T9 hw9 hstw8 how8 hbw8 hS1 hS2 hFY hLB hLP hBe c1 c2 c3 c4 c5 c6;obtain⟨d1,d2,d3,d4,d5,d6⟩:=T99.three;go_wp2_with fail
 refine(zC1 (h:=324) (e:=10) dE dE dE _ B N1 C w8f HBM.out HFB.out hN5 oM HAB.out).mono ?_;rintro e w10 ⟨kv,rfl,⟨m,G,hlp,hk⟩,hb10⟩;obtain⟨k1,k2,k3,rfl⟩:=hk.agg;have HLP:=xgv hlp;have hmN:m<=N1:=hlp.rows;have HG2:qM (leM (2^178) m N1 G):=⟨(hlp.bound hN5 dE HAB.out).mono (by unfold kb;decide)⟩;obtain⟨q,hq⟩:∃q:Nat,N1-m=q:=⟨_,rfl⟩;have HIS:qM (∀(v:Value) (w:World),qL w v m N1 (genM m N1 G)->Calls Tryz.prog 29 #[v] w fun e w'=>∃v,e= .returned v/\v= .bool true/\Below w.heap.size w w'):=⟨fun v w h=>zOy v m N1 _ w h (zGr (h:=2^178) (e:=179) dE dE (zV _ _ _) (zBE HG2.out)) (zEW.2 ⟨m,HLP.out.1.hnf⟩)⟩;have HRK:qM (∀(v:Value) (w:World),qL w v m N1 (genM m N1 G)->Calls Tryz.prog 30 #[v] w fun e w'=>∃v,e= .returned v/\v= .int .i64 m/\Below w.heap.size w w'):=⟨fun v w h=>by
  obtain⟨κ,hκ⟩:=HLP.out.1.hnf;exact zIe v m N1 m κ _ w h (zV _ _ _) (hκ.congr fun a ha b hb=>(qG ha hb).symm)⟩
 have HRB:qM (∀(v:Value) (w:World),qL w v N1 C B->Calls Tryz.prog 31 #[v] w fun e w'=>∃v,e= .returned v/\v= .int .i64 q/\Below w.heap.size w w'):=⟨fun v w h=>by
  rw[<-hq];exact zMS (h:=324) (e:=10) dE dE dE v B N1 C w h HFB.out hN5 oM HAB.out HLP.out⟩
 have HSD:qM (∀(v:Value) (w:World),qL w v m N1 (genM m N1 G)->Calls Tryz.prog 22 #[v] w fun e w'=>∃v,e= .returned v/\v= .bool true/\Below w.heap.size w w'):=⟨fun v w h=>zEX (h:=2^178) (e:=179) dE dE dE v _ m N1 w h (zV _ _ _) oM hN5 (zBE HG2.out) ⟨fun _=>HLP.out.satd,fun _=>rfl⟩⟩;obtain⟨y,hy⟩:∃y:Nat->Int,y=fun t=>if t=R then-1 else zDN N1 l1 0 t:=⟨_,rfl⟩
 have HYS:qM ((zQ N1 (zDN N1 l1 0)).set R (-1)=zQ N1 y):=⟨by rw[zA8,hy]⟩;have HCO:qM (∀(hv vv:Value) (w:World),qL w hv m N1 (genM m N1 G)->zAZ w vv (zQ N1 y)->Calls Tryz.prog 35 #[hv,vv] w fun e w'=>∃v,e= .returned v/\v= .bool true/\Below w.heap.size w w'):=⟨fun hv vv w h1 h2=>by
  obtain⟨κ,hκ⟩:=HLP.out.1.hnf;refine zJ7 hv vv w h1 h2 hκ oM oM (zKl (h:=2^178) (e:=179) (hκ.congr fun a ha b hb=>(qG ha hb).symm) oM (zBE HG2.out) dE dE fun b _=>?_) ((HLP.out.1.iff _).1 ?_)
  ·rw[hy]
   show(if b=R then(-1:Int)else zDN N1 l1 0 b).natAbs<=1000000;have:=zHL N1 l1 0 b;split<;>omega
  ·have hk:=zOF (y:=y) HB1.out HB2.out (fun t ht=>by rw[hy];show(if t=R then(-1:Int)else zDN N1 l1 0 t)=x t;rw[if_neg oM,HXD.out]) (by rw[hy];show(if R=R then(-1:Int)else zDN N1 l1 0 R)=-1;rw[if_pos rfl])
   rwa[HN1.out]at hk⟩
 have HPZ:qM (genM m C (zAT (genM m N1 G) B N1)=yX m C):=⟨by
  rw[zBZ];exact zS fun a ha b hb=>by
   unfold zAT;rw[zAp];exact(zD fun t ht=>by rw[qG ha ht]).trans (HLP.out.zero ha hb)⟩
 have HMS:qM (zCM (genM m N1 G) B m N1 C):=⟨zJF (h1:=2^178) (h2:=324) (e:=200) (zBE HG2.out) HAB.out hN5 dE dE⟩;have hmq:(m:Int)+(q:Int)=(N1:Int):=by omega
 have hwq:IntKind.i64.wrap (N1:Int)=(N1:Int):=IntWalk.i64_in _ oM;clear hy hq;have HM:=xgv ((HM.out.below hb59).below hb10);have HBM:=xgv (HBM.out.below hb10);have T6:=T6.below hb10;have T99:=T99.below hb10;have hB:=nx hB hb10;clear d1 d2 d3 d4 d5 d6 hlp;go_upto_region 7 with(fail)
 refine zC ?_;intro W11 hW11;obtain⟨hB11,T11,hs11⟩:=zN hW11;have HK:=xgv (hk.below hB11);have HM:=xgv (HM.out.below hB11);have HBM:=xgv (HBM.out.below hB11);have T6:=T6.below hB11;have T9:=T99.below hB11;have hB:=nx hB hB11;clear hW11 hk T99;obtain⟨c1,c2,c3,c4,c5,c6⟩:=T9.three;obtain⟨d1,d2,d3,d4,d5,d6⟩:=T11.three;obtain⟨bs,hbs⟩:∃bs:Bool,decide ((m:Int)=(m:Int)/\(N1:Int)=(N1:Int)/\qR m N1 (genM m N1 G))=bs:=⟨_,rfl⟩;have HBS:qM (bs=true):=⟨by rw[<-hbs];exact decide_eq_true ⟨rfl,rfl,(zV _ _ _).valid⟩⟩;have HSZ:qM (∀(v:Value) (w:World),qL w v m N1 (genM m N1 G)->Calls Tryz.prog 28 #[v,.int .i64 m,.int .i64 N1] w fun e w'=>e= .returned (.bool bs)/\Below w.heap.size w w'):=⟨fun v w h=>by rw[<-hbs];exact zLN v m N1 m N1 _ w h⟩;clear hbs;go_wp2_with fail
 refine(HSZ.out _ W11 HK.out).mono ?_;rintro e w12 ⟨rfl,hb12⟩;rw[HBS.out];have HK:=xgv (HK.out.below hb12);have HM:=xgv (HM.out.below hb12);have HBM:=xgv (HBM.out.below hb12);have T6:=T6.below hb12;have T9:=T9.below hb12;have T11:=T11.below hb12;have hB:=nx hB hb12;clear c1 c2 c3 c4 c5 c6 d1 d2 d3 d4 d5 d6 HSZ HBS;obtain⟨c1,c2,c3,c4,c5,c6⟩:=T9.three;obtain⟨d1,d2,d3,d4,d5,d6⟩:=T11.three;go_upto_region 8 with(fail)
 refine zF rfl (RV w12 _ [E 0 41 (.bool true),E 1 42 (.bool false),E 2 43 (.bool false),E 3 44 (.agg #[.int .i64 m,.int .i64 N1,.slice k1 k2 k3]),E 4 45 (.bool true),E 5 46 (.bool false),E 6 47 (.bool false),E 7 48 (.bool false),E 8 49 (.agg #[.int .i64 m,.int .i64 N1,.slice k1 k2 k3]),VN 9 50 m,VP 10 51 w10.heap.size 0,VN 11 52 m,E 12 53 (.bool false),E 13 54 (.bool false),E 14 55 (.bool false),VP 15 56 w10.heap.size 0,VN 16 57 m,E 17 58 (.agg #[.int .i64 N1,.int .i64 C,.slice vo vn vc]),VN 18 59 q,VN 19 60 N1,VP 20 61 b9 0,VN 21 62 N1,E 22 63 (.bool false),E 23 64 (.bool false)]) kR RV.start (RV.fin kR ?fin2) ?steps2
 case steps2=>
  refine⟨?_,?_,?_,?_,?_,?_,?_,?_,?_,?_,?_,?_,?_,?_,?_,?_,?_,?_,?_,?_,?_,?_,?_,?_,trivial⟩<;>(intro L T wS hL hd hcl hI K hK;try refine zA rfl ?_)
  ·exact xgs (hI.k 12 rfl kR)
  ·exact xgs (hI.e mm0 (hd 0))
  ·exact xgs (hI.e mm1 (hd 1))
  ·have zg:=hI.e mm2 (hd 2)
   refine zA xgp ?_;have zt:=hI.k 11 rfl kR;have cc0:=hI.cell d1;have cc1:=hI.cell d2;have cc2:=hI.cell d3;exact xgu
  ·have zg:=hI.e mm2 (hd 2)
   refine zA xgp ?_;have zt3:=hI.e mm3 (hd 3);go_simp;refine(HIS.out _ _ (HK.out.below hI.bel)).mono ?_;rintro e wa ⟨v,rfl,hv,hba⟩;exact hK _ _ ((hI.world hba).y mm4 hv)
  ·have zg:=hI.e mm2 (hd 2)
   refine zA xgp ?_;exact xgs (hI.e mm4 (hd 4))
  ·exact xgt (hI.e mm2 (hd 2)) (hI.e mm5 (hd 5))
  ·exact xgs (hI.e mm6 (hd 6))
  ·have zg:=hI.e mm7 (hd 7)
   refine zA xgp ?_;have zt:=hI.k 11 rfl kR;have cc0:=hI.cell d1;have cc1:=hI.cell d2;have cc2:=hI.cell d3;exact xgu
  ·have zg:=hI.e mm7 (hd 7)
   refine zA xgp ?_;have zt8:=hI.e mm8 (hd 8);go_simp;refine(HRK.out _ _ (HK.out.below hI.bel)).mono ?_;rintro e wa ⟨v,rfl,hv,hba⟩;exact hK _ _ ((hI.world hba).y mm9 hv)
  ·have zg:=hI.e mm7 (hd 7)
   refine zA xgp ?_;exact xgs (hI.k 11 rfl kR)
  ·have zg:=hI.e mm7 (hd 7)
   refine zA xgp ?_;have zt10:=hI.e yD (hd 10);have cc0:=hI.cell d1;exact xgu
  ·have zg:=hI.e mm7 (hd 7)
   refine zA xgp ?_;exact xgt (hI.e mm9 (hd 9)) (hI.e zAB (hd 11))
  ·exact xgt (hI.e mm7 (hd 7)) (hI.e zAh (hd 12))
  ·exact xgs (hI.e zBv (hd 13))
  ·have zg:=hI.e zBF (hd 14)
   refine zA xgp ?_;exact xgs (hI.k 11 rfl kR)
  ·have zg:=hI.e zBF (hd 14)
   refine zA xgp ?_;have zt15:=hI.e zCN (hd 15);have cc0:=hI.cell d1;exact xgu
  ·have zg:=hI.e zBF (hd 14)
   refine zA xgp ?_;have zt:=hI.k 9 rfl kR;have cc0:=hI.cell c1;have cc1:=hI.cell c2;have cc2:=hI.cell c3;exact xgu
  ·have zg:=hI.e zBF (hd 14)
   refine zA xgp ?_;have zt17:=hI.e zCg (hd 17);go_simp;refine(HRB.out _ _ (HBM.out.below hI.bel)).mono ?_;rintro e wa ⟨v,rfl,hv,hba⟩;exact hK _ _ ((hI.world hba).y zCh hv)
  ·have zg:=hI.e zBF (hd 14)
   refine zA xgp ?_;exact xgt (hI.e zCf (hd 16)) (hI.e zCh (hd 18))
  ·have zg:=hI.e zBF (hd 14)
   refine zA xgp ?_;exact xgs (hI.k 9 rfl kR)
  ·have zg:=hI.e zBF (hd 14)
   refine zA xgp ?_;have zt20:=hI.e zD6 (hd 20);have cc0:=hI.cell c1;exact xgu
  ·have zg:=hI.e zBF (hd 14)
   refine zA xgp ?_;exact xgt (hI.e zDW (hd 19)) (hI.e zEf (hd 21))
  ·exact xgt (hI.e zBF (hd 14)) (hI.e zEg (hd 22))
 intro w13 hbw13 T hT;simp only[Fin,E,EI,VP,VSl,VN,xgg,xgh,xgi,xgj]at hT;subst hT;have hB13:=nx hB hbw13;have HK:=xgv (HK.out.below hbw13);have HM:=xgv (HM.out.below hbw13);have HBM:=xgv (HBM.out.below hbw13);have T6:=T6.below hbw13;have T9:=T9.below hbw13;have T11:=T11.below hbw13;clear hB c1 c2 c3 c4 c5 c6 d1 d2 d3 d4 d5 d6 HIS HRK HRB hmq hwq;obtain⟨c1,c2,c3,c4,c5,c6⟩:=T9.three;obtain⟨d1,d2,d3,d4,d5,d6⟩:=T11.three;go_wp2_with fail
 refine(zDB _ _ m N1 C _ B w13 HK.out HBM.out (zV _ _ _) HFB.out oM oM oM HMS.out).mono ?_;rintro e w14 ⟨pv,pbs,rfl,hp,hb14⟩;have hp:=hp.mat.1;rw[HPZ.out]at hp;obtain⟨p1,p2,p3,rfl⟩:=hp.agg;have hB:=nx hB13 hb14;have HK:=xgv (HK.out.below hb14);have HM:=xgv (HM.out.below hb14);have HBM:=xgv (HBM.out.below hb14);have T6:=T6.below hb14;have T9:=T9.below hb14;have T11:=T11.below hb14;clear c1 c2 c3 c4 c5 c6 d1 d2 d3 d4 d5 d6 HPZ HMS hB13;go_upto_region 11 with(fail)
 refine zC ?_;intro W15 hW15;obtain⟨hB15,T13,hs15⟩:=zN hW15;have HP:=xgv (hp.below hB15);have HK:=xgv (HK.out.below hB15);have T6:=T6.below hB15;have T9:=T9.below hB15;have T11:=T11.below hB15;have hB:=nx hB hB15;clear hW15 hp HBM HM;obtain⟨c1,c2,c3,c4,c5,c6⟩:=T9.three;obtain⟨d1,d2,d3,d4,d5,d6⟩:=T11.three;obtain⟨f1,f2,f3,f4,f5,f6⟩:=T13.three;have hl1:=yW m C (yX m C);refine zF rfl (RV W15 _ [E 0 68 (.agg #[.int .i64 m,.int .i64 C,.slice p1 p2 p3]),VP 1 69 w10.heap.size 0,VN 2 70 m,VP 3 71 b9 1,VN 4 72 C,⟨5,73,fun w v=>qL w v m C (yX m C)⟩,E 6 74 (.bool true),E 7 75 (.bool false)]) kR RV.start (RV.fin kR ?fin3) ?steps3
 case steps3=>
  refine⟨?_,?_,?_,?_,?_,?_,?_,?_,trivial⟩<;>(intro L T wS hL hd hcl hI K hK;try refine zA rfl ?_)
  ·have zt:=hI.k 13 rfl kR
   have cc0:=hI.cell f1;have cc1:=hI.cell f2;have cc2:=hI.cell f3;exact xgu
  ·exact xgs (hI.k 11 rfl kR)
  ·have zt1:=hI.e mm1 (hd 1)
   have cc0:=hI.cell d1;exact xgu
  ·exact xgs (hI.k 9 rfl kR)
  ·have zt3:=hI.e mm3 (hd 3)
   have cc0:=hI.cell c2;exact xgu
  ·have zt2:=hI.e mm2 (hd 2)
   have zt4:=hI.e mm4 (hd 4);go_simp;refine(zPy m C _ _ _ rfl rfl oM oM).mono ?_;rintro e wa ⟨v,rfl,hv,hba⟩;exact hK _ _ ((hI.world hba).y mm5 hv)
  ·have zt0:=hI.e mm0 (hd 0)
   obtain⟨v5,zt5,h5⟩:=hI.v mm5 (hd 5);go_simp;refine(zJT _ _ m C _ _ (HP.out.below hI.bel) h5).mono ?_;rintro e wa ⟨v,rfl,hv,hba⟩;exact hK _ _ ((hI.world hba).y mm6 hv)
  ·exact xgs (hI.e mm6 (hd 6))
 intro w16 hbw16 T hT;simp only[Fin,E,EI,VP,VSl,VN,xgg,xgh,xgi,xgj]at hT;obtain⟨vg5,hg5,rfl⟩:=hT;have hB:=nx hB hbw16;have HK:=xgv (HK.out.below hbw16);have T6:=T6.below hbw16;have T11:=T11.below hbw16;clear c1 c2 c3 c4 c5 c6 d1 d2 d3 d4 d5 d6 f1 f2 f3 f4 f5 f6 HP T13 T9;obtain⟨c1,c2,c3,c4,c5,c6⟩:=T6.three;go_wp2_with fail
 rw[show((R:Int)+1)=(N1:Int) by have:=HN1.out;omega];refine(zJk _ N1 l1 w16 (hl.below hB) oM).mono ?_;rintro e w17 ⟨xb,rfl,hxb,hxr,hb17⟩;have HK16:=HK;have T11o:=T11;have hB16':=hB;have HX:=xgv hxr;have HK:=xgv (HK.out.below hb17);have T6:=T6.below hb17;have T11:=T11.below hb17;have hB17:=nx hB hb17;have lT6:=T6.lt;have lT11:=T11.lt;have hw16:=hb17.size;have hB1:=hb1.size;have hB16:=hB.size;have lxb:=hxr.lt;clear hxr c1 c2 c3 c4 c5 c6;go_wp2_with fail
 refine(zGm _ [-1] 1 1 _ _ [[-1]] _ (zE0.new _ [-1] dE dE) (by rfl) (by rfl) (by rfl) oM oM (by rfl)).mono ?_;rintro e w18 ⟨v1,rfl,hm1,hb18⟩;obtain⟨i1,i2,i3,rfl⟩:=hm1.agg;have hbb:=nxd hb18;have hB18:=nxa hB17 hb18;have HX:=xgv (HX.out.below hbb);have HK:=xgv (HK.out.below hbb);have T6:=T6.below hbb;have T11:=T11.below hbb;go_upto_region 15 with(fail)
 refine zC ?_;intro W19 hW19;obtain⟨hB19,T15,hs19⟩:=zN hW19;have hB:=nx hB18 hB19;have HX:=xgv (HX.out.below hB19);have HK:=xgv (HK.out.below hB19);have T6:=T6.below hB19;have T11:=T11.below hB19;have hm1:=hm1.below hB19;clear hW19;obtain⟨Mv,eM,hrv⟩:=id hm1;injection eM with eM
 simp only[Array.mk.injEq,List.cons.injEq,and_true,true_and]at eM;subst eM;obtain⟨mb,ra,rn,rc,zs,rfl,hmb,hz,p1,hvr⟩:=hrv.row (k:=0) dE;have hgl:=hrv.len.1;obtain rfl:zs= [-1]:=by injection hz with hz;exact hz.symm
 have hvl:=hvr.len.1;obtain⟨eb,z,s,a,l,c,rfl,heb,hzk,g1,g2,hzv⟩:=hvr.cell (k:=0) dE;obtain rfl:z=-1:=by injection hzk with hzk;exact hzk.symm
 obtain rfl:rn=1:=hvl.symm;obtain rfl:i2=1:=hgl.symm;obtain⟨sn,sa,sl,sc,z1,z2,z3,z4,-⟩:=HX.out.cell (k:=R) (z:=zDN N1 l1 0 R) (zW hRN);clear hz hzk hgl hvl hvr hrv;have lxb2:=HX.out.lt;have h1619:Below w16.heap.size w16 W19:=nx (nx hb17 hbb) hB19;have q1619:=h1619.size;obtain⟨c1,c2,c3,c4,c5,c6⟩:=T6.three;obtain⟨f1,f2,f3,f4,f5,f6⟩:=T15.three;refine zB 9 rfl (RV W19 _ [VSl 0 83 xb N1 N1,VP 1 84 w2.heap.size 0,VN 2 85 R,VP 3 86 w18.heap.size 2,VSl 4 87 mb 1 i3,VP 5 88 mb 0,VSl 6 89 eb 1 rc,VP 7 90 eb 0,E 8 91 (.agg #[.bool s,.slice a l c])]) kR RV.start (RV.fin kR ?fin4) ?steps4
 case steps4=>
  refine⟨?_,?_,?_,?_,?_,?_,?_,?_,?_,trivial⟩<;>(intro L T wS hL hd hcl hI K hK;try refine zA rfl ?_)
  ·exact xgs (hI.k 14 rfl kR)
  ·exact xgs (hI.k 6 rfl kR)
  ·have zt1:=hI.e mm1 (hd 1)
   have cc0:=hI.cell c1;exact xgu
  ·exact xgs (hI.k 15 rfl kR)
  ·have zt3:=hI.e mm3 (hd 3)
   have cc0:=hI.cell f3;exact xgu
  ·exact xgs (hI.e mm4 (hd 4))
  ·have zt5:=hI.e mm5 (hd 5)
   have cc0:=hI.cell p1;exact xgu
  ·exact xgs (hI.e mm6 (hd 6))
  ·have zt7:=hI.e mm7 (hd 7)
   have cc0:=hI.cell g1;have cc1:=hI.cell g2;exact xgu
 intro w20 hbw20 T hT;simp only[Fin,E,EI,VP,VSl,VN,xgg,xgh,xgi,xgj]at hT;subst hT;simp only[xgl,xgk];have HX:=xgv (HX.out.below hbw20);have hzv:=hzv.ext (lx hbw20);have h1620:=nx h1619 hbw20;have q1620:=h1620.size;clear c1 c2 c3 c4 c5 c6 f1 f2 f3 f4 f5 f6 z1 z2 z3 z4 p1 g1 g2 hB;obtain⟨sn,sa,sl,sc,z1,z2,z3,z4,-⟩:=HX.out.cell (k:=R) (z:=zDN N1 l1 0 R) (zW hRN);go_upto_region 16 with(fail)
 refine zC ?_;intro W21 hW21;have hset:=qF.set_at hW21 HX.out (by rw[zE];exact hRN) hzv;have h1621:Below w16.heap.size w16 W21:=by
  rw[hW21.out];exact zP (zP h1620 hxb _ _) hxb _ _
 clear hW21 z1 z2 z3 z4;rw[HYS.out]at hset;have HV:qM (zAZ W21 (.slice (some ⟨xb,0,none⟩) N1 N1) (zQ N1 y)):=⟨hset.1.vec (zE _ _) (xgf _) oM⟩;have HK:=xgv (HK16.out.below h1621);have T11:=T11o.below h1621;clear hset;obtain⟨d1,d2,d3,d4,d5,d6⟩:=T11.three;go_wp2_with fail
 refine(HSD.out _ _ HK.out).mono ?_;rintro e w22 ⟨sv,rfl,rfl,hb22⟩;have HK:=xgv (HK.out.below hb22);have HV:=xgv (HV.out.below hb22);have T11:=T11.below hb22;clear d1 d2 d3 d4 d5 d6;obtain⟨d1,d2,d3,d4,d5,d6⟩:=T11.three;go_wp2_with fail
 refine(HCO.out _ _ _ HK.out HV.out).mono ?_;rintro e w23 ⟨cv,rfl,rfl,hb23⟩;have hBE:=nx (nx (nx hB16' h1621) hb22) hb23;go_wp2;go_ret;exact⟨rfl,hBE⟩
end Go.Proofs.YtgnmdddaiefooaaGreat

namespace Go.Proofs.YtgnmdddaiefooaaGreat
open Go.ChangeShapes Go.WideShapes Go.ChangeAt Go.RowKit
theorem Tryz.own:ownKnob Tryz.prog.godebug=none:=by kernel_rfl
theorem Tryz.laidOut:laidOutB Tryz.prog=true:=by kernel_rfl
theorem zOf:Tryz.prog.cellsOf 5=1:=by kernel_rfl
theorem zKo{H:Type}{enc:TypeId × Value->H}{w:World}{f:Nat}{cs:List Value}{y:DataW H × List MemPlace}(hf:DataW.trod enc Tryz.prog w 0 (fun _=>true) true f 22 cs=some y)(hlt:∀x∈y.2,x.block<w.heap.size):
  ∃ao n cap ls,cs= [.slice ao n cap]/\I8V w (.slice ao n cap) ls:=by
 rcases open_ints Tryz.underlying22 Tryz.underlying73 kR hf with⟨e1,-⟩|⟨a,len,cap,zs,e1,-,hl,hm,hzl,e2,hcell,hwf⟩
 ·exact⟨none,0,0,[],e1,none,0,0,rfl,rfl,xgf _,by omega,fun z hz=>(by cases hz),fun h=>absurd rfl h⟩
 ·simp only[if_true]at hzl
  unfold maxLen at hm;refine⟨some a,len,cap,zs.take len,e1,some a,len,cap,rfl,by simp;omega,hl,by omega,fun z hz=>?_,fun h=>?_⟩
  ·have:=hwf z (List.mem_of_mem_take hz)
   exact bounds_i8 this
  ·have hpos:0<zs.length:=by
    rcases Nat.eq_zero_or_pos zs.length with h0|h0
    ·exact absurd (by rw[List.eq_nil_of_length_eq_zero h0];simp) h
    ·exact h0
   obtain⟨b,off,rfl,hj⟩:=ints_at hcell hpos;refine⟨b,off,rfl,?_,fun k z hk=>?_⟩
   ·exact hlt (.cell b off) (by rw[e2];exact MemPlace.mem_row.2 ⟨0,hpos,rfl⟩)
   ·obtain⟨h1,h2⟩:=xge.1 hk
    rw[List.getElem_take]at h2;have hkz:k<zs.length:=by
     simp at h1;omega
    rw[hj k hkz,<-h2];simp[hkz]
theorem zMM{H:Type}{enc:TypeId × Value->H}{w:World}{b0:Nat}{r:Reach}{v:Value}{d:DataW H}{ps:List MemPlace}(hval:Value.okWide Tryz.prog w r b0 24 v)
  (h:DataW.Trod enc Tryz.prog w 0 (fun _=>true) true 24 v d ps) (hlt:∀x∈ps,x.block<w.heap.size):∃(a b:Nat) (sv:Value) (ls:List Int),v= .agg #[.int .u8 a,.int .u8 b,sv]/\a<=255/\b<=255/\I8V w sv ls:=by
 simp only[Value.okWide,Tryz.underlying24]at hval;obtain⟨cs,rfl,hsz,-⟩:=hval;obtain⟨fuel,hf⟩:=h;obtain⟨xs,m,h0,h1,h2,h3,h4⟩:=DataW.trod_struct Tryz.underlying24 hf;have c24:Tryz.prog.cellsOf 24=3:=by kernel_rfl
 have c22:Tryz.prog.cellsOf 22=1:=by kernel_rfl
 have g0:DataW.trod enc Tryz.prog w 0 (fun _=>true) true m 5 (List.take (Tryz.prog.cellsOf 5) (List.drop 0 (Value.agg cs).cells.toList))=xs[0]?:=h4 0 _ rfl;have g1:DataW.trod enc Tryz.prog w 0 (fun _=>true) true m 5 (List.take (Tryz.prog.cellsOf 5) (List.drop 1 (Value.agg cs).cells.toList))=xs[1]?:=h4 1 _ rfl;have g2:DataW.trod enc Tryz.prog w 0 (fun _=>true) true m 22 (List.take (Tryz.prog.cellsOf 22) (List.drop 2 (Value.agg cs).cells.toList))=xs[2]?:=h4 2 _ rfl;rw[c24]at h2;rw[zOf]at g0 g1;rw[c22]at g2;simp only[Value.cells]at g0 g1 g2 h2;obtain⟨cl⟩:=cs;match xs,h3 with
 | [y0,y1,y2],_=>
  match cl,h2 with
  | [k0,k1,k2],_=>
   simp at g0 g1 g2;obtain⟨a,ha,-,wa⟩:=DataW.trod_int Tryz.underlying5 g0;obtain⟨b,hb,-,wb⟩:=DataW.trod_int Tryz.underlying5 g1;simp only[Prod.mk.injEq]at h1;obtain⟨ao,n,cap,ls,hk,hI⟩:=zKo g2 (fun x hx=>hlt x (by rw[h1.2];simp[hx]));simp at ha hb hk;subst ha;subst hb;subst hk;have wa:=bounds_u8 wa;have wb:=bounds_u8 wb;exact⟨a.toNat,b.toNat,_,ls,by rw[Int.toNat_of_nonneg wa.1,Int.toNat_of_nonneg wb.1],by omega,by omega,hI⟩

theorem zML{H:Type}{enc:TypeId × Value->H}{w:World}{b0:Nat}{r:Reach}{v:Value}{d:DataW H}{ps:List MemPlace}(hval:Value.okWide Tryz.prog w r b0 22 v)
  (h:DataW.Trod enc Tryz.prog w 0 (fun _=>true) true 22 v d ps) (hlt:∀x∈ps,x.block<w.heap.size):∃ls,I8V w v ls:=by
 obtain⟨a0,len0,cap0,rfl⟩:=okWide_slice Tryz.underlying22 hval;obtain⟨fuel,hf⟩:=h;obtain⟨ao,n,cap,ls,hk,hI⟩:=zKo hf hlt;simp[Value.cells]at hk;obtain⟨rfl,rfl,rfl⟩:=hk;exact⟨ls,hI⟩
theorem zBu(os:Os)(started:os.Started)(H:Type)(enc:TypeId × Value->H):
  ReturnsInHanded {} Tryz.checked os 4 .any (Rows.kernelCompleteSpec.pre6 enc Tryz.prog Tryz.f4 Rows.kernelCompleteRow.domain false) (Rows.kernelCompleteSpec.post enc Tryz.prog Tryz.f4 false true false false):=by
 refine returnsInHanded_of_change (C:=Tryz.checked) Tryz.own started kR Tryz.func4
  (ChangeSpec.witness6 (enc:=enc) (C:=Tryz.checked) false ⟨#[],#[.agg #[.int .u8 0,.int .u8 0,.slice none 0 0],.slice none 0 0],[]⟩ 8 kR kR kR kR) ?_
 intro W base args ds gs before hval0 hW hcnd _;have hval:∀(j:Nat) t v,Tryz.f4.params[j]?=some t->args[j]?=some v->Value.okWide Tryz.prog W .any base t v:=hval0;have hW':=hW;obtain⟨p,q,hA0,hV,rfl,hfz,hnd⟩:=hW;have hA:DataW.TrodAll enc Tryz.prog W 0 (fun _=>true) true Tryz.f4.params.toList args.toList ds p:=hA0;rw[Tryz.params4]at hA hval;obtain⟨v0,v1,d0,d1,p0,p1,rfl,rfl,rfl,h0,h1⟩:=trodAll_two hA;obtain⟨rfl,rfl⟩:=trodVars_none hV;clear hA0 hval0;simp only[List.append_nil]at hW';have hlt0:∀x∈p0,x.block<W.heap.size:=fun x hx=>hW'.lt x (by simp[hx])
 have hlt1:∀x∈p1,x.block<W.heap.size:=fun x hx=>hW'.lt x (by simp[hx])
 obtain⟨a,b,sv,ls,rfl,ha,hb,hI⟩:=zMM (hval 0 24 v0 rfl rfl) h0 hlt0;obtain⟨ls1,hI1⟩:=zML (hval 1 22 v1 rfl rfl) h1 hlt1;refine(zC0 sv v1 a b ls ls1 W hI hI1 ha hb).mono fun e W' ⟨he,hB⟩=>?_
 subst he;refine⟨_,rfl,_,_,_,[],p0++p1,[],hW',?_,?_,rfl,hB.frame _,fun h=>by cases h⟩
 ·exact trodAll_mk1 (shut_bool Tryz.underlying4 true)
 ·exact trodAll_mk2 (Below.trod Tryz.laidOut kR (of_decide_eq_true kR) h0 hB hlt0) (Below.trod Tryz.laidOut kR (of_decide_eq_true kR) h1 hB hlt1)
theorem kernelComplete_holds:Rows.KernelCompleteSaid:=
 OpenClaim.holds_of_wide 4 Tryz.f4 rfl rfl rfl rfl rfl rfl rfl ⟨rfl,rfl,rfl,rfl,rfl⟩ rfl rfl rfl rfl rfl kR Tryz.func4 kR
  (of_decide_eq_true kR) (by unfold Func.isWrapper;first|(rw[if_pos (by decide+kernel)];kernel_rfl)|(rw[if_neg (by decide+kernel)];exact⟨rfl,rfl⟩))
  (fun os started H enc _=>zBu os started H enc)
end Go.Proofs.YtgnmdddaiefooaaGreat
