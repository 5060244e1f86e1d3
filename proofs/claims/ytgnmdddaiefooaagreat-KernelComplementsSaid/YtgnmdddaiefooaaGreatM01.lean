/- torsionlaw15.KernelComplements: whatever the input, it returns true, and the input reads as it did. No conditions. -/
import Derived.Test.YtgnmdddaiefooaaGreatRows
import Derived.Test.YtgnmdddaiefooaaGreatK42
import Derived.Test.YtgnmdddaiefooaaGreatK51
set_option linter.unusedVariables false
set_option linter.unusedSimpArgs false
set_option linter.unusedSectionVars false
set_option maxHeartbeats 16000000
set_option maxRecDepth 100000
namespace Go.Proofs.YtgnmdddaiefooaaGreat
open Go.RowKit

theorem topM(v:Value)(n k:Nat)(Q:Nat->Nat->Int)(w:World)(h:qX w v n n (genM n n Q))(hk:k<=n):
  Calls Tryz.prog 39 #[v,.int .i64 k] w fun e w'=>∃v',e= .returned v'/\qX w' v' k n (genM k n Q)/\Below w.heap.size w w':=
 (zJF v n n k _ w h (zX _ _ _) hk).mono fun e w' ⟨v',h1,h2,h3⟩=>⟨v',h1,by rwa[zK8 hk]at h2,h3⟩
theorem prim_of_sat{R C m:Nat}{A S:Nat->Nat->Int}(h:zEp R C A m S):zJi m C S:=
 ⟨fun x hx=>(h.1.iff x).1 ((h.1.sat x).1 hx),h.1.min1⟩
theorem zJi.congr{R C:Nat}{A B:Nat->Nat->Int}(h:zJi R C A)(e:∀a,a<R->∀b,b<C->A a b=B a b):zJi R C B:=by
 refine⟨fun x hx=>(zAE.congr e x).1 (h.sat x ((zBp.congr e x).2 hx)),?_⟩;obtain⟨σ,τ,a,b,d⟩:=h.full;exact⟨σ,τ,a,b,by rwa[<-qU (F:=fun x y=>A (σ x) (τ y)) fun x hx y hy=>e _ (a x hx) _ (b y hy)]⟩
theorem prim_ops{n k:Nat}{l:List Op}(hl:qJ n l)(hk:k<=n):zJi k n (ent (genM k n (zA2 l idf))):=
 (zHc (A:=zA2 l idf) (Q:=zA2 l idf) (P:=fun t b=>zGB l idf b t) hk (fun a ha b hb=>zFv hl (P:=idf) (Q:=idf) (C:=n) (fun a ha b hb=>zFg n a ha b hb) a ha b hb) fun _ _ _ _=>rfl).congr fun a ha b hb=>(qK ha hb).symm
def CompM(R C:Nat)(A:Nat->Nat->Int)(w:World)(v:Value):Prop:=∃(o:Option Addr) (n k:Nat) (B eb:Nat),v= .tuple #[.agg #[.int .i64 ((C-R:Nat):Int),.int .i64 C,.slice o n k],.int .i64 0]∧
 qL (1<=B/\2*B<=2^eb/\eb<=35000000/\R<=C/\zBq B R C A w (.agg #[.int .i64 ((C-R:Nat):Int),.int .i64 C,.slice o n k]))
theorem kcompM{h e:Nat}(h1:1<=h)(he:2*h<=2^e)(he2:e<=500)(v:Value)(M:List (List Int))(R C:Nat)(w:World)(hm:qX w v R C M)(hF:yI R C M)(hRC:R<=C)(hC:C<=4)(hA:leM h R C (ent M))(hans:zJi R C (ent M)):
  Calls Tryz.prog 16 #[v] w fun e w'=>∃v,e= .returned v/\CompM R C (ent M) w' v/\Below w.heap.size w w':=
 (zBy h1 he oM v M R C w hm hF oM hC hA (ans:=true) ⟨fun _=>hans,fun _=>rfl⟩).mono fun x w' ⟨v,h2,h3,h4⟩=>by
  obtain⟨u,rfl,hu⟩:=zFe h3;obtain⟨o,n,k,rfl⟩:=hu.agg;exact⟨_,h2,⟨o,n,k,gk 16 h,e*2^16,rfl,⟨zCL 16 h1,zKB he,by rw[show 2^16=65536 by decide];omega,hRC,hu⟩⟩,h4⟩
theorem completesM{B eb:Nat}{v u:Value}{M:List (List Int)}{R C:Nat}{w0 w:World}(h:qL (1<=B/\2*B<=2^eb/\eb<=35000000/\R<=C/\zBq B R C (ent M) w0 u))(hb:Below w0.heap.size w0 w)(hm:qX w v R C M)(hF:yI R C M)(hC:C<=4):
  Calls Tryz.prog 23 #[v,u] w fun e w'=>∃v,e= .returned v/\v= .bool true/\Below w.heap.size w w':=by
 obtain⟨⟨h1,h2,h3,h4,h5⟩⟩:=h;exact zBT h1 h2 h3 v u M R C w hm hF h4 hC (h5.below hb)
theorem satcompM(v:Value)(M:List (List Int))(R C m:Nat)(S:Nat->Nat->Int)(w:World)(hs:zEp R C (ent M) m S)(hm:qX w v m C (genM m C S))(hR:R<=4)(hC:C<=4)(hA:leM 9 R C (ent M)):
  Calls Tryz.prog 16 #[v] w fun e w'=>∃v,e= .returned v/\CompM m C (ent (genM m C S)) w' v/\Below w.heap.size w w':=
 kcompM (h:=644972544) (e:=31) dE dE dE v _ m C w hm (zX _ _ _) hs.cols hC (zBV (by
  have:=hs.bound hR dE hA
  rwa[show 24*(8*9)^4=644972544 by decide]at this)) ((prim_of_sat hs).congr fun a ha b hb=>(qK ha hb).symm)
theorem kernelComplements_any(lv v:Value)(p q r c:Nat)(st:List (Nat × Nat × Nat × Int))(ls:List Int)(w:World)(hst:StV w lv st)(h:I8V w v ls)(hp:p<=255)(hq:q<=255)(hr:r<=255)(hc:c<=255):
  Calls Tryz.prog 6 #[.agg #[.int .u8 p,.int .u8 q],lv,.agg #[.int .u8 r,.int .u8 c,v]] w fun e w'=>e= .returned (.bool true)/\Below w.heap.size w w':=by
 obtain⟨ao,n,cap,rfl,-,-,-,-,-⟩:=id h;obtain⟨R,hR⟩:∃R:Nat,R=r%5:=⟨_,rfl⟩;obtain⟨C,hC⟩:∃C:Nat,C=c%5:=⟨_,rfl⟩;have hR4:R<=4:=by omega
 have hC4:C<=4:=by omega
 have HR:=xgw hR;have HC:=xgw hC;clear hR hC;obtain⟨M,hM⟩:∃M,genM R C (zJz C ls)=M:=⟨_,rfl⟩;have HMade:qL (∀w,I8V w (.slice ao n cap) ls->Calls Tryz.prog 14 #[.agg #[.int .u8 r,.int .u8 c,.slice ao n cap]] w fun e w'=>∃v,e= .returned v/\qX w' v R C M/\Below w.heap.size w w'):=⟨fun w h=>by
  rw[<-hM];exact zO7 _ r c ls w h hr hc R C HR.out HC.out⟩
 have HF:qL (yI R C M):=⟨by rw[<-hM];exact zX _ _ _⟩;have HA9:qL (leM 9 R C (ent M)):=⟨by rw[<-hM];exact zBV (zLV R C C ls)⟩;clear hM;obtain⟨so,sn,sc,rfl,-,-,-,-,-⟩:=id hst;obtain⟨m,hm0⟩:∃m:Nat,m=p%5:=⟨_,rfl⟩;have hm4:m<=4:=by omega
 have e1:(p:Int)%5=(m:Int):=by omega
 obtain⟨N1,hN1⟩:∃N1:Nat,N1=m+1:=⟨_,rfl⟩;obtain⟨k,hk0⟩:∃k:Nat,k=q%N1:=⟨_,rfl⟩;have hkm:k<=m:=by
  have:=Nat.mod_lt q (show 0<N1 by omega);omega
 have e2:(m:Int)+1=(N1:Int):=by omega
 have e3:Int.tmod (q:Int) (N1:Int)=(k:Int):=by
  rw[Int.tmod_eq_emod_of_nonneg oM,hk0];exact(Int.natCast_emod _ _).symm
 have e4:((N1:Int)==0)=false:=by rw[beq_eq_false_iff_ne];omega
 have e5:¬ (N1:Int)=0:=by omega
 have e6:¬ N1=0:=by omega
 have e7:IntKind.i64.wrap (N1:Int)=(N1:Int):=IntWalk.i64_in _ oM;have e8:IntKind.i64.wrap (k:Int)=(k:Int):=IntWalk.i64_in _ oM;have e9:IntKind.i64.wrap (q:Int)=(q:Int):=IntWalk.i64_in _ oM;clear hm0 hk0 hN1;go_enter Tryz.func6,Tryz.ntmps6;go_upto_region 1 with(fail)
 refine zB ?_;intro W0 hW0;obtain⟨hB0,bw,bx,hs0⟩:=qI hW0;clear hW0;go_wp2_with fail
 refine(zGr W0).mono ?_;rintro e w1 ⟨rfl,hb1⟩;have hB:=nx hB0 hb1;have bx:=bx.below hb1;have bw:=bw.below hb1;obtain⟨d1,d2,d3,d4⟩:=bw.two;go_wp2_with fail
 refine(zEb m w1 oM).mono ?_;rintro e w2 ⟨iv,rfl,hiv,hb2⟩;obtain⟨i1,i2,i3,rfl⟩:=hiv.agg;have hB:=nx hB hb2;go_wp2_with fail
 refine(zOJ _ _ m m _ st 1 w2 hiv (zX _ _ _) oM oM (hst.below hB) oM dE (zBV (zDK m 1 dE))).mono ?_;rintro e w3 ⟨uv,l,rfl,hol,hmv,hml,hb3⟩;obtain⟨u1,u2,u3,rfl⟩:=hmv.agg;have HOL:=xgv hol;have hQ:∀a,a<m->∀b,b<m->zA2 l (ent (genM m m idf)) a b=zA2 l idf a b:=fun a ha b hb=>by
  rw[zEW hol (ent (genM m m idf)) a ha b,zEW hol idf a ha b];exact zD fun t ht=>by rw[qK ht hb]
 have HMQ:qL (genM m m (zA2 l (ent (genM m m idf)))=genM m m (zA2 l idf)):=⟨zR hQ⟩;have HLE:qL (leM 16777216 k m (ent (genM k m (zA2 l idf)))):=⟨zBV fun a ha b hb=>by
  have:=hml a oM b hb;rw[hQ a oM b hb]at this;exact this⟩
 rw[HMQ.out]at hmv;have bx:=(bx.below hb2).below hb3;have bw:=(bw.below hb2).below hb3;have hB:=nx hB hb3;clear d1 d2 d3 d4 hol hml hQ HMQ hiv e1;go_upto_region 3 with(fail)
 refine zB ?_;intro W4 hW4;obtain⟨hB4,T8,hs4⟩:=zO hW4;have HMV:=xgv (hmv.below hB4);have bx:=bx.below hB4;have bw:=bw.below hB4;have hB:=nx hB hB4;have lbx:=bx.lt;clear hW4 hmv;obtain⟨d1,d2,d3,d4⟩:=bw.two;obtain⟨c1,c2,c3,c4,c5,c6⟩:=T8.three;have hl1:=zHR 28 W4.heap.size #[.int .i64 0,.int .i64 0,.slice none 0 0];refine zC 10 rfl (RV W4 _ [E 0 23 (.agg #[.int .i64 m,.int .i64 m,.slice u1 u2 u3]),VP 1 24 w.heap.size 1,E 2 25 (.int .u8 q),VN 3 26 q,VP 4 27 w3.heap.size 0,VN 5 28 m,VN 6 29 N1,VN 7 30 k,⟨8,31,fun w v=>qX w v (k) (m) (genM k m (zA2 l idf))⟩,⟨9,9,zOu 28 W4.heap.size #[.int .i64 0,.int .i64 0,.slice none 0 0]⟩]) kR RV.start (RV.fin kR ?fin1) ?steps1
 case steps1=>
  refine⟨?_,?_,?_,?_,?_,?_,?_,?_,?_,?_,trivial⟩<;>(intro L T wS hL hd hcl hI K hK;try refine zA rfl ?_)
  ·have zt:=hI.k 8 rfl kR
   have cc0:=hI.cell c1;have cc1:=hI.cell c2;have cc2:=hI.cell c3;exact xgu
  ·exact xgs (hI.k 3 rfl kR)
  ·have zt1:=hI.e mm1 (hd 1)
   have cc0:=hI.cell d2;exact xgu
  ·exact xgs (hI.e mm2 (hd 2))
  ·exact xgs (hI.k 8 rfl kR)
  ·have zt4:=hI.e mm4 (hd 4)
   have cc0:=hI.cell c1;exact xgu
  ·exact xgs (hI.e mm5 (hd 5))
  ·exact xgt (hI.e mm3 (hd 3)) (hI.e mm6 (hd 6))
  ·have zt0:=hI.e mm0 (hd 0)
   have zt7:=hI.e mm7 (hd 7);go_simp;refine(topM _ m k _ _ (HMV.out.below hI.bel) hkm).mono ?_;rintro e wa ⟨v,rfl,hv,hba⟩;exact hK _ _ ((hI.world hba).y mm8 hv)
  ·go_simp
   exact hK _ _ ((hI.world ((Below.refl _ _).alloc (xgf _) _)).y mm9 ⟨_,rfl,hI.bel.size,Blk.new _ _ _⟩)
 intro w5 hbw5 T hT;simp only[Fin,E,EI,VP,VSl,VN,xgg,xgh,xgi,xgj]at hT;obtain⟨va8,ha8,va9,ha9,rfl⟩:=hT;simp only[xgl,xgk];obtain⟨b9,rfl,hb9,T9⟩:zOu 28 W4.heap.size #[.int .i64 0,.int .i64 0,.slice none 0 0] w5 va9:=ha9;obtain⟨t1,t2,t3,rfl⟩:=(show qX w5 va8 k m (genM k m (zA2 l idf)) from ha8).agg;obtain⟨c1,c2,c3,c4,c5,c6⟩:=T9.three;have hTM:=xgv (show qX w5 (.agg #[.int .i64 k,.int .i64 m,.slice t1 t2 t3]) k m (genM k m (zA2 l idf)) from ha8);have bx:=bx.below hbw5;have hB:=nx hB hbw5;have hlt5:=T9.lt;have q5:=hbw5.size;have q4:=hB4.size;clear ha8 hl1 d1 d2 d3 d4 bw T8 HMV;go_upto_region 4 with(fail)
 refine zB ?_;intro W6 hW6;have T9':Blk W6 b9 28 #[.int .i64 k,.int .i64 m,.slice t1 t2 t3]:=by rw[hW6.out];exact T9.put3 _ _ _
 have HTM:=xgv (hTM.out.keep3 T9 (.int .i64 k) (.int .i64 m) (.slice t1 t2 t3));rw[<-hW6.out]at HTM;have bx:Blk W6 (w.heap.size+1) 24 #[.int .u8 r,.int .u8 c,.slice ao n cap]:=by
  rw[hW6.out];exact(qQ _ _ _ _ _ _ oM).trans bx
 have hB:Below w.heap.size w W6:=by rw[hW6.out];exact zN (zN (zN hB oM 0 _) oM 1 _) oM 2 _
 have hlt6:=T9'.lt;clear hW6 hTM T9 c1 c2 c3 c4 c5 c6 hlt5;obtain⟨c1,c2,c3,c4,c5,c6⟩:=T9'.three;go_wp2_with fail
 refine(kcompM (h:=16777216) (e:=25) dE dE dE _ _ k m W6 HTM.out (zX _ _ _) hkm hm4 HLE.out (prim_ops HOL.out hkm)).mono ?_;rintro e w7 ⟨_,rfl,⟨y1,y2,y3,B1,eb1,rfl,HC1⟩,hb7⟩;have HTM:=xgv (HTM.out.below hb7);have T9':=T9'.below hb7;have bx:=bx.below hb7;have hB:=nx hB hb7;clear c1 c2 c3 c4 c5 c6 HLE;go_upto_region 5 with(fail)
 refine zB ?_;intro W8 hW8;obtain⟨hB8,T10,hs8⟩:=zO hW8;have HTM:=xgv (HTM.out.below hB8);have T9':=T9'.below hB8;have bx:=bx.below hB8;have hB:=nx hB hB8;have hb78:=hB8;clear hW8 hlt6 hs8;obtain⟨c1,c2,c3,c4,c5,c6⟩:=bx.three;go_wp2_with fail
 refine(HMade.out W8 (h.below hB)).mono ?_;rintro e w9 ⟨va,rfl,hm,hb9⟩;clear c1 c2 c3 c4 c5 c6;go_wp2_with fail
 refine(zJG (h:=9) (e:=5) dE dE dE _ M R C w9 hm HF.out oM hC4 HA9.out).mono ?_;rintro e w10 ⟨sv,rfl,⟨m',S,hsp,hms⟩,hb10⟩;obtain⟨s1,s2,s3,rfl⟩:=hms.agg;have HSP:=xgv hsp;have hb810:=nx hb9 hb10;have hB:=nx hB hb810;have hb710:=nx hb78 hb810;have HTM:=xgv (HTM.out.below hb810);have T9':=T9'.below hb810;have T10:=T10.below hb810;clear hsp hm hb9 hb10 bx;go_upto_region 6 with(fail)
 refine zB ?_;intro W11 hW11;obtain⟨hB11,T12,hs11⟩:=zO hW11;have HMS:=xgv (hms.below hB11);have HTM:=xgv (HTM.out.below hB11);have T9':=T9'.below hB11;have T10:=T10.below hB11;have hB:=nx hB hB11;have hb711:=nx hb710 hB11;clear hW11 hms hs11;obtain⟨c1,c2,c3,c4,c5,c6⟩:=T12.three;go_wp2_with fail
 refine(satcompM _ M R C m' S W11 HSP.out HMS.out hR4 hC4 HA9.out).mono ?_;rintro e w12 ⟨_,rfl,⟨z1,z2,z3,B2,eb2,rfl,HC2⟩,hb12⟩;have HMS:=xgv (HMS.out.below hb12);have HTM:=xgv (HTM.out.below hb12);have T9':=T9'.below hb12;have T10:=T10.below hb12;have T12:=T12.below hb12;have hB:=nx hB hb12;have hb712:=nx hb711 hb12;clear c1 c2 c3 c4 c5 c6;go_upto_region 7 with(fail)
 refine zB ?_;intro W13 hW13;obtain⟨hB13,T13,hs13⟩:=zO hW13;have HMS:=xgv (HMS.out.below hB13);have HTM:=xgv (HTM.out.below hB13);have T9':=T9'.below hB13;have T10:=T10.below hB13;have T12:=T12.below hB13;have hB:=nx hB hB13;have hb713:=nx hb712 hB13;clear hW13 hs13;obtain⟨c1,c2,c3,c4,c5,c6⟩:=T9'.three;obtain⟨d1,d2,d3,d4,d5,d6⟩:=T10.three;go_wp2_with fail
 refine(completesM HC1 hb713 HTM.out (zX _ _ _) hm4).mono ?_;rintro e wa ⟨_,rfl,rfl,hba⟩;have hB:=nx hB hba;have T12:=T12.below hba;have T13:=T13.below hba;have hbz:=nx hB13 hba;clear c1 c2 c3 c4 c5 c6 d1 d2 d3 d4 d5 d6;obtain⟨c1,c2,c3,c4,c5,c6⟩:=T12.three;obtain⟨d1,d2,d3,d4,d5,d6⟩:=T13.three;go_wp2_with fail
 refine(completesM HC2 hbz (HMS.out.below hba) (zX _ _ _) hC4).mono ?_;rintro e wb ⟨_,rfl,rfl,hbb⟩;have hB:=nx hB hbb;go_wp2;go_ret;exact⟨rfl,hB⟩
end Go.Proofs.YtgnmdddaiefooaaGreat

namespace Go.Proofs.YtgnmdddaiefooaaGreat
open Go.ChangeShapes Go.WideShapes Go.ChangeAt Go.RowKit
theorem open_step{H:Type}{enc:TypeId × Value->H}{w:World}{f:Nat}{cs:List Value}{y:DataW H × List MemPlace}(hf:DataW.trod enc Tryz.prog w 0 (fun _=>true) true f 97 cs=some y):
  ∃p q r:Nat,∃z:Int,cs= [.int .u8 p,.int .u8 q,.int .u8 r,.int .i8 z]/\p<=255/\q<=255/\r<=255/\-128<=z/\z<=127:=by
 obtain⟨xs,m,h0,h1,h2,h3,h4⟩:=DataW.trod_struct Tryz.underlying97 hf;have c105:Tryz.prog.cellsOf 97=4:=by kernel_rfl
 have c41:Tryz.prog.cellsOf 73=1:=by kernel_rfl
 have g0:DataW.trod enc Tryz.prog w 0 (fun _=>true) true m 5 (List.take (Tryz.prog.cellsOf 5) (List.drop 0 cs))=xs[0]?:=h4 0 _ rfl;have g1:DataW.trod enc Tryz.prog w 0 (fun _=>true) true m 5 (List.take (Tryz.prog.cellsOf 5) (List.drop 1 cs))=xs[1]?:=h4 1 _ rfl;have g2:DataW.trod enc Tryz.prog w 0 (fun _=>true) true m 5 (List.take (Tryz.prog.cellsOf 5) (List.drop 2 cs))=xs[2]?:=h4 2 _ rfl;have g3:DataW.trod enc Tryz.prog w 0 (fun _=>true) true m 73 (List.take (Tryz.prog.cellsOf 73) (List.drop 3 cs))=xs[3]?:=h4 3 _ rfl;rw[c105]at h2;rw[zMR]at g0 g1 g2;rw[c41]at g3;match xs,h3 with
 | [y0,y1,y2,y3],_=>
  match cs,h2 with
  | [k0,k1,k2,k3],_=>
   simp at g0 g1 g2 g3;obtain⟨a,ha,-,wa⟩:=DataW.trod_int Tryz.underlying5 g0;obtain⟨b,hb,-,wb⟩:=DataW.trod_int Tryz.underlying5 g1;obtain⟨c,hc,-,wc⟩:=DataW.trod_int Tryz.underlying5 g2;obtain⟨d,hd,-,wd⟩:=DataW.trod_int Tryz.underlying73 g3;simp at ha hb hc hd;subst ha;subst hb;subst hc;subst hd;have wa:=bounds_u8 wa;have wb:=bounds_u8 wb;have wc:=bounds_u8 wc;have wd:=bounds_i8 wd;exact⟨a.toNat,b.toNat,c.toNat,d,by rw[Int.toNat_of_nonneg wa.1,Int.toNat_of_nonneg wb.1,Int.toNat_of_nonneg wc.1],by omega,by omega,by omega,wd.1,wd.2⟩
theorem open_steps{H:Type}{enc:TypeId × Value->H}{w:World}{b0:Nat}{r:Reach}{v:Value}{d:DataW H}{ps:List MemPlace}(hval:Value.okWide Tryz.prog w r b0 56 v)
  (h:DataW.Trod enc Tryz.prog w 0 (fun _=>true) true 56 v d ps) (hlt:∀x∈ps,x.block<w.heap.size):∃ls,StV w v ls:=by
 obtain⟨a0,len,cap,rfl⟩:=okWide_slice Tryz.underlying56 hval;obtain⟨fuel,hf⟩:=h;have c105:Tryz.prog.cellsOf 97=4:=by kernel_rfl
 rcases DataW.trod_slice Tryz.underlying56 hf with⟨e1,-⟩|⟨a,len',cap',elems,rest,n,-,e1,e2,-,hl,hm,hlen,hel,-,-⟩
 ·simp[Value.cells]at e1
  obtain⟨rfl,rfl,rfl⟩:=e1;exact⟨[],none,0,0,rfl,rfl,xgf _,by omega,fun z hz=>(by cases hz),fun h=>absurd rfl h⟩
 ·simp[Value.cells]at e1
  obtain⟨rfl,rfl,rfl⟩:=e1;unfold maxLen at hm;rw[c105]at hel e2;have each:∀i,i<len->∃s:Nat × Nat × Nat × Int,(s.1<=255/\s.2.1<=255/\s.2.2.1<=255/\-128<=s.2.2.2/\s.2.2.2<=127)/\w.cell? ((a.add (i*4)).add 0)=some (.int .u8 s.1)/\w.cell? ((a.add (i*4)).add 1)=some (.int .u8 s.2.1)/\w.cell? ((a.add (i*4)).add 2)=some (.int .u8 s.2.2.1)/\w.cell? ((a.add (i*4)).add 3)=some (.int .i8 s.2.2.2):=by
   intro i hi;have h1:=hel i hi;rw[xga oM,Option.bind_eq_some_iff]at h1;obtain⟨cs,hcs,hy⟩:=h1;obtain⟨p,q,r,z,rfl,g1,g2,g3,g4,g5⟩:=open_step hy;unfold World.cells? at hcs;rw[if_pos (Nat.zero_le _)]at hcs;refine⟨(p,q,r,z),⟨g1,g2,g3,g4,g5⟩,?_,?_,?_,?_⟩
   ·simpa using mapM_some_get hcs 0 0 sI
   ·simpa using mapM_some_get hcs 1 1 sI
   ·simpa using mapM_some_get hcs 2 2 sI
   ·simpa using mapM_some_get hcs 3 3 sI
  obtain⟨f,hf'⟩:∃f:Nat->Nat × Nat × Nat × Int,∀i,i<len->((f i).1<=255/\(f i).2.1<=255/\(f i).2.2.1<=255/\-128<=(f i).2.2.2/\(f i).2.2.2<=127)/\w.cell? ((a.add (i*4)).add 0)=some (.int .u8 (f i).1)/\w.cell? ((a.add (i*4)).add 1)=some (.int .u8 (f i).2.1)/\w.cell? ((a.add (i*4)).add 2)=some (.int .u8 (f i).2.2.1)/\w.cell? ((a.add (i*4)).add 3)=some (.int .i8 (f i).2.2.2):=by
   refine⟨fun i=>if h:i<len then(each i h).choose else(0,0,0,0),fun i hi=>?_⟩;simp only[dif_pos hi];exact(each i hi).choose_spec
  refine⟨(List.range len).map f,some a,len,cap,rfl,by simp,hl,by omega,fun s hs=>?_,fun hne=>?_⟩
  ·obtain⟨i,hi,rfl⟩:=List.mem_map.1 hs
   exact(hf' i (List.mem_range.1 hi)).1
  ·have hpos:0<len:=by
    rcases Nat.eq_zero_or_pos len with h0|h0
    ·rw[h0]at hne;exact absurd rfl hne
    ·exact h0
   obtain⟨b,off,spot⟩:=a;have hspot:spot=none:=by simpa[Addr.add]using World.cell?_spot (hf' 0 hpos).2.1
   subst hspot;refine⟨b,off,rfl,?_,fun k s hk=>?_⟩
   ·refine hlt (.cell b off) ?_
    simp only[Prod.mk.injEq]at e2;rw[e2.2];exact List.mem_append_left _ (MemPlace.mem_row.2 ⟨0,by omega,rfl⟩)
   ·obtain⟨h1,h2⟩:=xge.1 hk
    simp at h1 h2;subst h2;obtain⟨-,g1,g2,g3,g4⟩:=hf' k h1;rw[Go.WideShapes.add_plain,Go.WideShapes.add_plain]at g1 g2 g3 g4;exact⟨g1,g2,g3,g4⟩
theorem kernelComplements_lifted(os:Os)(started:os.Started)(H:Type)(enc:TypeId × Value->H):
  ReturnsInHanded {} Tryz.checked os 6 .any (Rows.kernelComplementsSpec.pre6 enc Tryz.prog Tryz.f6 Rows.kernelComplementsRow.domain false) (Rows.kernelComplementsSpec.post enc Tryz.prog Tryz.f6 false true false false):=by
 refine returnsInHanded_of_change (C:=Tryz.checked) Tryz.own started kR Tryz.func6
  (ChangeSpec.witness6 (enc:=enc) (C:=Tryz.checked) false ⟨#[],#[.agg #[.int .u8 0,.int .u8 0],.slice none 0 0,.agg #[.int .u8 0,.int .u8 0,.slice none 0 0]],[]⟩ 8 kR kR kR kR) ?_
 intro W base args ds gs before hval0 hW hcnd _;have hval:∀(j:Nat) t v,Tryz.f6.params[j]?=some t->args[j]?=some v->Value.okWide Tryz.prog W .any base t v:=hval0;have hW':=hW;obtain⟨p,q,hA0,hV,rfl,hfz,hnd⟩:=hW;have hA:DataW.TrodAll enc Tryz.prog W 0 (fun _=>true) true Tryz.f6.params.toList args.toList ds p:=hA0;rw[Tryz.params6]at hA hval;obtain⟨v0,v1,v2,d0,d1,d2,p0,p1,p2,rfl,rfl,rfl,h0,h1,h2⟩:=trodAll_three hA;obtain⟨rfl,rfl⟩:=trodVars_none hV;obtain⟨x,y,rfl,hx,hy⟩:=zOM (hval 0 55 v0 rfl rfl) h0;clear hA0 hval0;simp only[List.append_nil]at hW';have hlt0:∀x∈p0,x.block<W.heap.size:=fun x hx=>hW'.lt x (by simp[hx])
 have hlt1:∀x∈p1,x.block<W.heap.size:=fun x hx=>hW'.lt x (by simp[hx])
 have hlt2:∀x∈p2,x.block<W.heap.size:=fun x hx=>hW'.lt x (by simp[hx])
 obtain⟨st,hS⟩:=open_steps (hval 1 56 v1 rfl rfl) h1 hlt1;obtain⟨a,b,sv,ls,rfl,ha,hb,hI⟩:=zLv (hval 2 24 v2 rfl rfl) h2 hlt2;obtain⟨x,rfl⟩:=Int.eq_ofNat_of_zero_le hx.1;obtain⟨y,rfl⟩:=Int.eq_ofNat_of_zero_le hy.1;refine(kernelComplements_any v1 sv x y a b st ls W hS hI oM oM ha hb).mono fun e W' ⟨he,hB⟩=>?_
 subst he;refine⟨_,rfl,_,_,_,[],p0++(p1++p2),[],hW',?_,?_,rfl,hB.frame _,fun h=>by cases h⟩
 ·exact trodAll_mk1 (shut_bool Tryz.underlying4 true)
 ·exact trodAll_mk3 (Below.trod Tryz.laidOut kR (of_decide_eq_true kR) h0 hB hlt0) (Below.trod Tryz.laidOut kR (of_decide_eq_true kR) h1 hB hlt1) (Below.trod Tryz.laidOut kR (of_decide_eq_true kR) h2 hB hlt2)
theorem kernelComplements_holds:Rows.KernelComplementsSaid:=
 OpenClaim.holds_of_wide 6 Tryz.f6 rfl rfl rfl rfl rfl rfl rfl ⟨rfl,rfl,rfl,rfl,rfl⟩ rfl rfl rfl rfl rfl kR Tryz.func6 kR
  (of_decide_eq_true kR) (by unfold Func.isWrapper;first|(rw[if_pos (by decide+kernel)];kernel_rfl)|(rw[if_neg (by decide+kernel)];exact⟨rfl,rfl⟩))
  (fun os started H enc _=>kernelComplements_lifted os started H enc)
end Go.Proofs.YtgnmdddaiefooaaGreat
