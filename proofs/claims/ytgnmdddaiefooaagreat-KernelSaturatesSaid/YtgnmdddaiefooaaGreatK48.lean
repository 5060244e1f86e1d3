/- torsionref15.Left, torsionref15.Saturate. torsionlaw12.HermiteUnique: the walk. -/
import Derived.Test.YtgnmdddaiefooaaGreatK41
import Derived.Test.YtgnmdddaiefooaaGreatK44
import Derived.Test.YtgnmdddaiefooaaGreatK46
import Derived.Test.YtgnmdddaiefooaaGreatK47
set_option linter.unusedVariables false
set_option linter.unusedSimpArgs false
set_option linter.unusedSectionVars false
set_option maxHeartbeats 16000000
set_option maxRecDepth 100000
namespace Go.Proofs.YtgnmdddaiefooaaGreat
open Go.RowKit
def zMp(t:TypeId)(n0:Nat)(cs:Array Value)(w:World)(v:Value):Prop:=∃b,v= .pointer (some ⟨b,0,none⟩)/\n0<=b/\Blk w b t cs
theorem zHQ(t:TypeId)(n0:Nat)(cs:Array Value):qT (zMp t n0 cs):=fun _ _ _ e ⟨b,h1,h2,h3⟩=>⟨b,h1,h2,h3.below e⟩
theorem zH5{e M0 E:Nat}(hM:2*M0<=2^e)(hE:1<=E)(hk:e*E<=32*zG6):gx E M0<BD:=by
 rw[zLR];have h2:=zGc (M:=M0) hE;have h3:(2*M0)^E<=(2^e)^E:=Nat.pow_le_pow_left hM _;rw[<-Nat.pow_mul]at h3;have h4:=zDT hk;have h5:0<2^(e*E):=Nat.pow_pos oM;omega
theorem zFP{M0:Nat}(hM1:1<=M0)(v:Value)(M:List (List Int))(R C:Nat)(w:World)(h:qX w v R C M)(hF:yI R C M)(hR:R<=1000)(hC:C<=1000000)(hA:leM M0 R C (ent M))
  (hg1:gx (eE R R) M0<BD) (hg2:∀r,r<=R->(r=0->∀a,a<R->∀b,b<C->ent M a b=0)->gx (eE (R-r) (R-r)) (gx (eE R R) M0)<BD):
  Calls Tryz.prog 20 #[v] w fun e w'=>∃v,e= .returned v/\zBr R C (ent M) w' v/\Below w.heap.size w w':=by
 have gx_pos1:∀{M:Nat},1<=M->1<=gx (eE R R) M:=fun h=>Nat.le_trans h (zIu h (zFC R R))
 have h0:=h;obtain⟨A,rfl,h⟩:=h;obtain⟨ao,n,cap,rfl,e2,e3,e4,-⟩:=id h;obtain rfl:R=n:=by rw[<-e2,hF.1]
 have H0:=xgv h0;have HF:=xgv hF;have HA:=xgv hA;have HG1:=xgv hg1;have HG2:=xgv hg2;clear h0 hF e2 h hA hg1 hg2;go_enter Tryz.func20,Tryz.ntmps20;go_upto_region 1 with(fail)
 refine zB ?_;intro W0 hW0;obtain⟨hB0,bx,br,hs0⟩:=qI hW0;obtain⟨c1,c2,c3,c4,c5,c6⟩:=bx.three;clear hW0;go_wp2_with fail
 refine(zDU hM1 _ M R C W0 (H0.out.below hB0).off HF.out oM hC HA.out HG1.out).mono ?_;rintro e w2 ⟨fv,r,κ,H,U,V,rfl,hf,hU,-,hv,hb2⟩;obtain⟨f1,f2,f3,f4,f5,f6,f7,f8,f9,rfl,hfh,hfu,-⟩:=hv.agg3;have hrR:=hf.hnf.le;have HHN:qL (Hnf C R r κ (ent (genM R C H))):=⟨hf.hnf.genM⟩;have HGG:qL (gx (eE (R-r) (R-r)) (gx (eE R R) M0)<BD):=⟨HG2.out r hrR fun hr a ha b hb=>by
  subst hr;rw[hf.back a ha b hb];exact yD fun t ht=>by rw[hf.hnf.zero t (Nat.zero_le _) ht b hb,Int.mul_zero]⟩
 have HUL:qL (leM (gx (eE R R) M0) (R-r) R (ent (((genM R R U).take R).drop r))):=⟨by
  rw[zAV,zAp];exact zBV fun a ha b hb=>hU (r+a) oM b hb⟩
 have HFI:qL (yI (R-r) R (((genM R R U).take R).drop r)):=⟨by rw[zAV,zAp];exact zX _ _ _⟩;have HLP:qL (∀r' c' H' U' V',jH (R-r) R r' c' (ent (((genM R R U).take R).drop r)) H' U' V'->zAb R C (ent M) r' H'):=⟨fun r' c' H' U' V' h'=>zAb.of hf (by rw[zAV,zAp]) h'⟩;have br:=br.below hb2;have bx:=bx.below hb2;have hB:=nx hB0 hb2;clear c1 c2 c3 c4 c5 c6 hf hU hv;go_upto_region 2 with(fail)
 refine zB ?_;intro W3 hW3;obtain⟨hB3,T3,hs3⟩:=zO hW3;have HFH:=xgv (hfh.below hB3);have HFU:=xgv (hfu.below hB3);have bx:=bx.below hB3;have br:=br.below hB3;have hB:=nx hB hB3;clear hW3 hfh hfu;obtain⟨q0,q1,q2,-⟩:=T3.nine;go_wp2_with fail
 refine(zIV _ R C r κ _ W3 HFH.out (zX _ _ _) HHN.out).mono ?_;rintro e w3 ⟨_,rfl,rfl,hb3⟩;have T3:=T3.below hb3;have HFU:=xgv (HFU.out.below hb3);have bx:=bx.below hb3;have br:=br.below hb3;have hB:=nx hB hb3;have q3':=hb3.size;clear q0 q1 q2;go_upto_region 3 with(fail)
 have lbr:=br.lt;obtain⟨c1,c2,c3,c4,c5,c6⟩:=bx.three;obtain⟨q0,q1,q2,q3,q4',q5,q6,q7,q8⟩:=T3.nine;have hsub:(R:Int)-(r:Int)=((R-r:Nat):Int):=by omega
 have hw:IntKind.i64.wrap ((R-r:Nat):Int)=((R-r:Nat):Int):=IntWalk.i64_in _ oM;have hl1:=zHQ 28 w3.heap.size #[.int .i64 0,.int .i64 0,.slice none 0 0];obtain⟨A3,e3,hru⟩:=id HFU.out;injection e3 with e3
 simp only[Array.mk.injEq,List.cons.injEq,and_true,true_and]at e3;subst e3;have hlu:=hru.len;obtain rfl:R=f5:=by rw[<-hlu.1];simp[genM]
 have hlc:=hlu.2.1;rcases Nat.eq_zero_or_pos R with h0|h0
 ·subst h0
  obtain rfl:r=0:=by omega
  have hz:((genM 0 0 U).take 0).drop 0= []:=rfl;cases f4 with
  | none=>
   refine zC 13 rfl (RV w3 _ [VP 0 11 w.heap.size 0,VN 1 12 0,VN 2 13 0,E 3 14 (.int .i64 ((0-0:Nat):Int)),VP 4 15 w.heap.size 0,VN 5 16 0,VP 6 17 w2.heap.size 3,VP 7 18 w2.heap.size 5,E 8 19 (.slice none 0 f6),VN 9 20 0,⟨10,21,fun _ v=>v= .slice none (0-0) (f6-0)⟩,⟨11,22,fun _ v=>v= .agg #[.int .i64 ((0-0:Nat):Int),.int .i64 0,.slice none (0-0) (f6-0)]⟩,⟨12,5,zMp 28 w3.heap.size #[.int .i64 0,.int .i64 0,.slice none 0 0]⟩]) kR RV.start (RV.fin kR ?fin1) ?steps1
   case steps1=>
    refine⟨?_,?_,?_,?_,?_,?_,?_,?_,?_,?_,?_,?_,?_,trivial⟩<;>(intro L T wS hL hd hcl hI K hK;try refine zA rfl ?_)
    ·exact xgs (hI.k 1 rfl kR)
    ·have zt0:=hI.e mm0 (hd 0)
     have cc0:=hI.cell c1;exact xgu
    ·exact xgs (hI.k 4 rfl kR)
    ·exact xgt (hI.e mm1 (hd 1)) (hI.e mm2 (hd 2))
    ·exact xgs (hI.k 1 rfl kR)
    ·have zt4:=hI.e mm4 (hd 4)
     have cc0:=hI.cell c1;exact xgu
    ·exact xgs (hI.k 3 rfl kR)
    ·exact xgs (hI.e mm6 (hd 6))
    ·have zt7:=hI.e mm7 (hd 7)
     have cc0:=hI.cell q5;exact xgu
    ·exact xgs (hI.k 4 rfl kR)
    ·obtain⟨_,zt8,rfl⟩:=hI.v mm8 (hd 8)
     obtain⟨_,zt9,rfl⟩:=hI.v mm9 (hd 9);go_simp;skip;exact hK _ _ (hI.y yC rfl)
    ·obtain⟨_,zt3,rfl⟩:=hI.v mm3 (hd 3)
     obtain⟨_,zt5,rfl⟩:=hI.v mm5 (hd 5);obtain⟨_,zt10,rfl⟩:=hI.v yC (hd 10);go_simp;exact hK _ _ (hI.y jQ rfl)
    ·go_simp
     exact hK _ _ ((hI.world ((Below.refl _ _).alloc (xgf _) _)).y zAY ⟨_,rfl,hI.bel.size,Blk.new _ _ _⟩)
   intro w4 hbw4 T hT;simp only[Fin,E,EI,VP,VSl,VN,xgg,xgh,xgi,xgj]at hT;obtain⟨va12,ha12,rfl⟩:=hT;simp only[xgl,xgk];obtain⟨b5,rfl,hb5,T5⟩:zMp 28 w3.heap.size #[.int .i64 0,.int .i64 0,.slice none 0 0] w4 va12:=ha12;obtain⟨n1,n2,n3,n4,n5,n6⟩:=T5.three;have bx:=bx.below hbw4;have br:=br.below hbw4;have hB4:=nx hB hbw4;have HFU:=xgv (HFU.out.below hbw4);have q4:=hbw4.size;clear c1 c2 c3 c4 c5 c6 q0 q1 q2 q3 q4' q5 q6 q7 q8;go_upto_region 4 with(fail)
   refine zB ?_;intro W5 hW5;have T5n:Blk W5 b5 28 #[.int .i64 ((0-0:Nat):Int),.int .i64 0,.slice none (0-0) (f6-0)]:=by rw[hW5.out];exact T5.put3 _ _ _
   have hMW:zA8 W5 (.agg #[.int .i64 ((0-0:Nat):Int),.int .i64 0,.slice none (0-0) (f6-0)]) ((0-0:Nat):Int) 0 (((genM 0 0 U).take 0).drop 0):=by
    rw[hW5.out];exact zA8.keep3 ⟨_,rfl,none,0,f6,rfl,rfl,Nat.zero_le _,by omega,fun h=>absurd rfl h⟩ T5 _ _ _
   have ho5:∀b,b≠b5->W5.heap[b]?=w4.heap[b]?:=fun b hb=>by rw[hW5.out];exact qQ _ _ _ _ _ _ hb
   have hB5:Below w.heap.size w W5:=by rw[hW5.out];exact zN (zN (zN hB4 oM _ _) oM _ _) oM _ _
   have br:Blk W5 (w.heap.size+1) 28 #[.int .i64 0,.int .i64 0,.slice none 0 0]:=(ho5 _ oM).trans br;have HMW:=xgv hMW;clear hW5 n1 n2 n3 n4 n5 n6 T5 hMW;obtain⟨n1,n2,n3,n4,n5,n6⟩:=T5n.three;go_wp2_with fail
   refine(zBc (gx_pos1 hM1) _ _ (0-0) 0 W5 HMW.out HFI.out oM oM HUL.out HGG.out).mono ?_;rintro e w6 ⟨v',r',c',H',U',V',rfl,hf',hm',hb6⟩;have HLL:qL (zAb 0 C (ent M) r' H'):=⟨HLP.out _ _ _ _ _ hf'⟩;obtain⟨t1,t2,t3,rfl⟩:=hm'.agg;have br:=br.below hb6;have hB6:=nx hB5 hb6;obtain⟨r1,r2,r3,r4,r5,r6⟩:=br.three;have HMM:=xgv hm';clear hm' hf' n1 n2 n3 n4 n5 n6;go_wp2;refine zP (r:=w.heap.size+1) rfl rfl rfl (br.put3 _ _ _) ⟨_,rfl,⟨r',H',HLL.out,HMM.out.keep3 br _ _ _⟩,zN (zN (zN hB6 oM 0 _) oM 1 _) oM 2 _⟩
  | some a4=>
   refine zC 13 rfl (RV w3 _ [VP 0 11 w.heap.size 0,VN 1 12 0,VN 2 13 0,E 3 14 (.int .i64 ((0-0:Nat):Int)),VP 4 15 w.heap.size 0,VN 5 16 0,VP 6 17 w2.heap.size 3,VP 7 18 w2.heap.size 5,E 8 19 (.slice (some a4) 0 f6),VN 9 20 0,⟨10,21,fun _ v=>v= .slice (some a4) (0-0) (f6-0)⟩,⟨11,22,fun _ v=>v= .agg #[.int .i64 ((0-0:Nat):Int),.int .i64 0,.slice (some a4) (0-0) (f6-0)]⟩,⟨12,5,zMp 28 w3.heap.size #[.int .i64 0,.int .i64 0,.slice none 0 0]⟩]) kR RV.start (RV.fin kR ?fin2) ?steps2
   case steps2=>
    refine⟨?_,?_,?_,?_,?_,?_,?_,?_,?_,?_,?_,?_,?_,trivial⟩<;>(intro L T wS hL hd hcl hI K hK;try refine zA rfl ?_)
    ·exact xgs (hI.k 1 rfl kR)
    ·have zt0:=hI.e mm0 (hd 0)
     have cc0:=hI.cell c1;exact xgu
    ·exact xgs (hI.k 4 rfl kR)
    ·exact xgt (hI.e mm1 (hd 1)) (hI.e mm2 (hd 2))
    ·exact xgs (hI.k 1 rfl kR)
    ·have zt4:=hI.e mm4 (hd 4)
     have cc0:=hI.cell c1;exact xgu
    ·exact xgs (hI.k 3 rfl kR)
    ·exact xgs (hI.e mm6 (hd 6))
    ·have zt7:=hI.e mm7 (hd 7)
     have cc0:=hI.cell q5;exact xgu
    ·exact xgs (hI.k 4 rfl kR)
    ·obtain⟨_,zt8,rfl⟩:=hI.v mm8 (hd 8)
     obtain⟨_,zt9,rfl⟩:=hI.v mm9 (hd 9);go_simp;skip;exact hK _ _ (hI.y yC rfl)
    ·obtain⟨_,zt3,rfl⟩:=hI.v mm3 (hd 3)
     obtain⟨_,zt5,rfl⟩:=hI.v mm5 (hd 5);obtain⟨_,zt10,rfl⟩:=hI.v yC (hd 10);go_simp;exact hK _ _ (hI.y jQ rfl)
    ·go_simp
     exact hK _ _ ((hI.world ((Below.refl _ _).alloc (xgf _) _)).y zAY ⟨_,rfl,hI.bel.size,Blk.new _ _ _⟩)
   intro w4 hbw4 T hT;simp only[Fin,E,EI,VP,VSl,VN,xgg,xgh,xgi,xgj]at hT;obtain⟨va12,ha12,rfl⟩:=hT;simp only[xgl,xgk];obtain⟨b5,rfl,hb5,T5⟩:zMp 28 w3.heap.size #[.int .i64 0,.int .i64 0,.slice none 0 0] w4 va12:=ha12;obtain⟨n1,n2,n3,n4,n5,n6⟩:=T5.three;have bx:=bx.below hbw4;have br:=br.below hbw4;have hB4:=nx hB hbw4;have HFU:=xgv (HFU.out.below hbw4);have q4:=hbw4.size;clear c1 c2 c3 c4 c5 c6 q0 q1 q2 q3 q4' q5 q6 q7 q8;go_upto_region 4 with(fail)
   refine zB ?_;intro W5 hW5;have T5n:Blk W5 b5 28 #[.int .i64 ((0-0:Nat):Int),.int .i64 0,.slice (some a4) (0-0) (f6-0)]:=by rw[hW5.out];exact T5.put3 _ _ _
   have hMW:zA8 W5 (.agg #[.int .i64 ((0-0:Nat):Int),.int .i64 0,.slice (some a4) (0-0) (f6-0)]) ((0-0:Nat):Int) 0 (((genM 0 0 U).take 0).drop 0):=by
    rw[hW5.out];exact zA8.keep3 ⟨_,rfl,some a4,0,f6,rfl,rfl,Nat.zero_le _,by omega,fun h=>absurd rfl h⟩ T5 _ _ _
   have ho5:∀b,b≠b5->W5.heap[b]?=w4.heap[b]?:=fun b hb=>by rw[hW5.out];exact qQ _ _ _ _ _ _ hb
   have hB5:Below w.heap.size w W5:=by rw[hW5.out];exact zN (zN (zN hB4 oM _ _) oM _ _) oM _ _
   have br:Blk W5 (w.heap.size+1) 28 #[.int .i64 0,.int .i64 0,.slice none 0 0]:=(ho5 _ oM).trans br;have HMW:=xgv hMW;clear hW5 n1 n2 n3 n4 n5 n6 T5 hMW;obtain⟨n1,n2,n3,n4,n5,n6⟩:=T5n.three;go_wp2_with fail
   refine(zBc (gx_pos1 hM1) _ _ (0-0) 0 W5 HMW.out HFI.out oM oM HUL.out HGG.out).mono ?_;rintro e w6 ⟨v',r',c',H',U',V',rfl,hf',hm',hb6⟩;have HLL:qL (zAb 0 C (ent M) r' H'):=⟨HLP.out _ _ _ _ _ hf'⟩;obtain⟨t1,t2,t3,rfl⟩:=hm'.agg;have br:=br.below hb6;have hB6:=nx hB5 hb6;obtain⟨r1,r2,r3,r4,r5,r6⟩:=br.three;have HMM:=xgv hm';clear hm' hf' n1 n2 n3 n4 n5 n6;go_wp2;refine zP (r:=w.heap.size+1) rfl rfl rfl (br.put3 _ _ _) ⟨_,rfl,⟨r',H',HLL.out,HMM.out.keep3 br _ _ _⟩,zN (zN (zN hB6 oM 0 _) oM 1 _) oM 2 _⟩
 ·obtain⟨b,rfl⟩:∃b,f4=some ⟨b,0,none⟩:=by
   obtain⟨b,_,_,_,_,e,-⟩:=hru.row (k:=0) (by simp[genM];omega);exact⟨b,e⟩
  obtain⟨q,hq⟩:∃q:Option Addr,(if f6=r then some ⟨b,0,none⟩else some ⟨b,r,none⟩)=q:=⟨_,rfl⟩;have HQ2:qL (r<R->q=some ⟨b,r,none⟩):=⟨fun hlt=>by rw[<-hq,if_neg oM]⟩;clear hru hlu;refine zC 13 rfl (RV w3 _ [VP 0 11 w.heap.size 0,VN 1 12 R,VN 2 13 r,E 3 14 (.int .i64 ((R-r:Nat):Int)),VP 4 15 w.heap.size 0,VN 5 16 R,VP 6 17 w2.heap.size 3,VP 7 18 w2.heap.size 5,VSl 8 19 b R f6,VN 9 20 r,⟨10,21,fun _ v=>v= .slice q (R-r) (f6-r)⟩,⟨11,22,fun _ v=>v= .agg #[.int .i64 ((R-r:Nat):Int),.int .i64 R,.slice q (R-r) (f6-r)]⟩,⟨12,5,zMp 28 w3.heap.size #[.int .i64 0,.int .i64 0,.slice none 0 0]⟩]) kR RV.start (RV.fin kR ?fin3) ?steps3
  case steps3=>
   refine⟨?_,?_,?_,?_,?_,?_,?_,?_,?_,?_,?_,?_,?_,trivial⟩<;>(intro L T wS hL hd hcl hI K hK;try refine zA rfl ?_)
   ·exact xgs (hI.k 1 rfl kR)
   ·have zt0:=hI.e mm0 (hd 0)
    have cc0:=hI.cell c1;exact xgu
   ·exact xgs (hI.k 4 rfl kR)
   ·exact xgt (hI.e mm1 (hd 1)) (hI.e mm2 (hd 2))
   ·exact xgs (hI.k 1 rfl kR)
   ·have zt4:=hI.e mm4 (hd 4)
    have cc0:=hI.cell c1;exact xgu
   ·exact xgs (hI.k 3 rfl kR)
   ·exact xgs (hI.e mm6 (hd 6))
   ·have zt7:=hI.e mm7 (hd 7)
    have cc0:=hI.cell q5;exact xgu
   ·exact xgs (hI.k 4 rfl kR)
   ·obtain⟨_,zt8,rfl⟩:=hI.v mm8 (hd 8)
    obtain⟨_,zt9,rfl⟩:=hI.v mm9 (hd 9);go_simp;skip;exact hK _ _ (hI.y yC rfl)
   ·obtain⟨_,zt3,rfl⟩:=hI.v mm3 (hd 3)
    obtain⟨_,zt5,rfl⟩:=hI.v mm5 (hd 5);obtain⟨_,zt10,rfl⟩:=hI.v yC (hd 10);go_simp;exact hK _ _ (hI.y jQ rfl)
   ·go_simp
    exact hK _ _ ((hI.world ((Below.refl _ _).alloc (xgf _) _)).y zAY ⟨_,rfl,hI.bel.size,Blk.new _ _ _⟩)
  intro w4 hbw4 T hT;simp only[Fin,E,EI,VP,VSl,VN,xgg,xgh,xgi,xgj]at hT;obtain⟨va12,ha12,rfl⟩:=hT;simp only[xgl,xgk];obtain⟨b5,rfl,hb5,T5⟩:zMp 28 w3.heap.size #[.int .i64 0,.int .i64 0,.slice none 0 0] w4 va12:=ha12;obtain⟨n1,n2,n3,n4,n5,n6⟩:=T5.three;have bx:=bx.below hbw4;have br:=br.below hbw4;have hB4:=nx hB hbw4;have HFU:=xgv (HFU.out.below hbw4);have q4:=hbw4.size;clear c1 c2 c3 c4 c5 c6 q0 q1 q2 q3 q4' q5 q6 q7 q8;go_upto_region 4 with(fail)
  refine zB ?_;intro W5 hW5;have T5n:Blk W5 b5 28 #[.int .i64 ((R-r:Nat):Int),.int .i64 R,.slice q (R-r) (f6-r)]:=by rw[hW5.out];exact T5.put3 _ _ _
  have hMW:zA8 W5 (.agg #[.int .i64 ((R-r:Nat):Int),.int .i64 R,.slice q (R-r) (f6-r)]) ((R-r:Nat):Int) R (((genM R R U).take R).drop r):=by
   rw[hW5.out];exact zA8.keep3 ⟨_,rfl,qY.cut (by obtain⟨A4,e4,h4⟩:=HFU.out;injection e4 with e4;simp only[Array.mk.injEq,List.cons.injEq,and_true,true_and]at e4;subst e4;exact h4) hrR (xgf _) q HQ2.out (f6-r) oM oM⟩ T5 _ _ _
  have ho5:∀b,b≠b5->W5.heap[b]?=w4.heap[b]?:=fun b hb=>by rw[hW5.out];exact qQ _ _ _ _ _ _ hb
  have hB5:Below w.heap.size w W5:=by rw[hW5.out];exact zN (zN (zN hB4 oM _ _) oM _ _) oM _ _
  have br:Blk W5 (w.heap.size+1) 28 #[.int .i64 0,.int .i64 0,.slice none 0 0]:=(ho5 _ oM).trans br;have HMW:=xgv hMW;clear hW5 n1 n2 n3 n4 n5 n6 T5 hMW;obtain⟨n1,n2,n3,n4,n5,n6⟩:=T5n.three;go_wp2_with fail
  refine(zBc (gx_pos1 hM1) _ _ (R-r) R W5 HMW.out HFI.out oM oM HUL.out HGG.out).mono ?_;rintro e w6 ⟨v',r',c',H',U',V',rfl,hf',hm',hb6⟩;have HLL:qL (zAb R C (ent M) r' H'):=⟨HLP.out _ _ _ _ _ hf'⟩;obtain⟨t1,t2,t3,rfl⟩:=hm'.agg;have br:=br.below hb6;have hB6:=nx hB5 hb6;obtain⟨r1,r2,r3,r4,r5,r6⟩:=br.three;have HMM:=xgv hm';clear hm' hf' n1 n2 n3 n4 n5 n6;go_wp2;refine zP (r:=w.heap.size+1) rfl rfl rfl (br.put3 _ _ _) ⟨_,rfl,⟨r',H',HLL.out,HMM.out.keep3 br _ _ _⟩,zN (zN (zN hB6 oM 0 _) oM 1 _) oM 2 _⟩
theorem zFh{n:Nat}(h:n<=4):eE n n<=1000000:=by
 rcases(by omega:n=0∨n=1∨n=2∨n=3∨n=4)with rfl|rfl|rfl|rfl|rfl<;>decide
theorem zLY{n:Nat}(h:n<=3):eE n n<=1000:=by
 rcases(by omega:n=0∨n=1∨n=2∨n=3)with rfl|rfl|rfl|rfl<;>decide
theorem zCg{h e:Nat}(h1:1<=h)(he:2*h<=2^e)(he2:e<=30000)(v:Value)(M:List (List Int))(R C:Nat)(w:World)(hm:qX w v R C M)(hF:yI R C M)(hR:R<=4)(hC:C<=1000000)(hA:leM h R C (ent M)):
  Calls Tryz.prog 20 #[v] w fun e w'=>∃v,e= .returned v/\zBr R C (ent M) w' v/\Below w.heap.size w w':=by
 have e4:=zFh hR;by_cases hz:∀a,a<R->∀b,b<C->ent M a b=0
 ·have hb:gx 1000000000000 1<BD:=zH5 (e:=1) dE dE (by rw[yP];decide)
  refine zFP (M0:=1) (xgf _) v M R C w hm hF oM hC (fun a ha b hb=>by rw[hz a ha b hb];decide) (Nat.lt_of_le_of_lt (jJ (xgf _) oM) hb) fun r hr _=>?_
  rw[zIv (zFC R R)];exact Nat.lt_of_le_of_lt (jJ (xgf _) (Nat.mul_le_mul e4 (zFh oM))) hb
 ·have hb:gx 1000000000 h<BD:=zH5 he dE (by rw[yP];omega)
  refine zFP h1 v M R C w hm hF oM hC hA (Nat.lt_of_le_of_lt (jJ h1 oM) hb) fun r hr h0=>?_
  rw[zIv (zFC R R)];have hr1:r≠0:=fun e=>hz (h0 e)
  exact Nat.lt_of_le_of_lt (jJ h1 (Nat.mul_le_mul e4 (zLY (n:=R-r) oM))) hb
theorem zDn(v:Value)(R C:Nat)(M:List (List Int))(w:World)(h:qX w v R C M)(hF:yI R C M)(hR:R<=1000000)(hC:C<=1000000):
  Calls Tryz.prog 61 #[v] w fun e w'=>∃v,e= .returned v/\qX w' v C R (genM C R (fun a b=>ent M b a))/\Below w.heap.size w w':=
 (zEd v R C M w h hF hR hC).mono fun e w' ⟨v,bs,h,hm,hb⟩=>⟨v,h,hm.mat.1,hb⟩
theorem zJG{h e:Nat}(h1:1<=h)(he:2*h<=2^e)(he2:e<=1800)(v:Value)(M:List (List Int))(R C:Nat)(w:World)(hm:qX w v R C M)(hF:yI R C M)(hR:R<=1000000)(hC:C<=4)(hA:leM h R C (ent M)):
  Calls Tryz.prog 15 #[v] w fun e w'=>∃v,e= .returned v/\zJb R C (ent M) w' v/\Below w.heap.size w w':=by
 have h0:=hm;obtain⟨A,rfl,hm⟩:=hm;obtain⟨ao,n,cap,rfl,e2,e3,e4,-⟩:=id hm;obtain rfl:R=n:=by rw[<-e2,hF.1]
 have H0:=xgv h0;have HF:=xgv hF;have HA:qL (leM h C R (ent (genM C R (fun a b=>ent M b a)))):=⟨zBV fun a ha b hb=>hA b hb a ha⟩;have HH:=xgv (And.intro h1 he);have HL1:qL (∀m K,zAb C R (ent (genM C R (fun a b=>ent M b a))) m K->zAb C R (trF (ent M)) m K):=⟨fun m K q1=>q1.congr fun a ha b hb=>qK ha hb⟩;have HL2:qL (∀m K,zAb C R (trF (ent M)) m K->leM (kb h) C m (ent (genM C m (fun a b=>ent (genM m C K) b a)))):=⟨fun m K q1=>zBV fun a ha b hb=>by
  rw[qK hb ha];exact q1.bound hC h1 (fun a ha b hb=>hA b hb a ha) b hb a ha⟩
 have HL3:qL (∀m K m2 S,zAb C R (trF (ent M)) m K->zAb C m (ent (genM C m (fun a b=>ent (genM m C K) b a))) m2 S->zEp R C (ent M) m2 S):=⟨fun m K m2 S q1 q2=>zEp.of q1 (q2.congr fun a ha b hb=>by rw[qK ha hb,qK hb ha];rfl)⟩;clear h0 hF e2 hm hA h1 he;go_enter Tryz.func15,Tryz.ntmps15;go_upto_region 1 with(fail)
 refine zB ?_;intro W0 hW0;obtain⟨hB0,bx,br,hs0⟩:=qI hW0;obtain⟨c1,c2,c3,c4,c5,c6⟩:=bx.three;clear hW0;go_wp2_with fail
 refine(zDn _ R C M W0 (H0.out.below hB0) HF.out hR oM).mono ?_;rintro e w1 ⟨u1,rfl,hu1,hb1⟩;go_wp2_with fail
 refine(zCg HH.out.1 HH.out.2 oM _ _ C R w1 hu1 (zX _ _ _) hC hR HA.out).mono ?_;rintro e w2 ⟨u2,rfl,⟨m,K,hl,hmk⟩,hb2⟩;obtain⟨t1,t2,t3,rfl⟩:=hmk.agg;have HLP:qL (zAb C R (trF (ent M)) m K):=⟨HL1.out m K hl⟩;have HKB:qL (leM (kb h) C m (ent (genM C m (fun a b=>ent (genM m C K) b a)))):=⟨HL2.out m K HLP.out⟩;have hmC:=hl.rows;have br:=(br.below hb1).below hb2;have hB:=nx (nx hB0 hb1) hb2;clear c1 c2 c3 c4 c5 c6 hu1 hl;go_upto_region 2 with(fail)
 refine zB ?_;intro W3 hW3;obtain⟨hB3,T3,hs3⟩:=zO hW3;have HMK:=xgv (hmk.below hB3);have br:=br.below hB3;have hB:=nx hB hB3;clear hW3 hmk;obtain⟨c1,c2,c3,c4,c5,c6⟩:=T3.three;go_wp2_with fail
 refine(zDn _ m C _ W3 HMK.out (zX _ _ _) oM oM).mono ?_;rintro e w4 ⟨u1,rfl,hu1,hb4⟩;go_wp2_with fail
 refine(zCg (zMU HH.out.1) (zKJ HH.out.2) oM _ _ C m w4 hu1 (zX _ _ _) hC oM HKB.out).mono ?_;rintro e w5 ⟨u2,rfl,⟨m2,S,hl,hms⟩,hb5⟩;obtain⟨s1,s2,s3,rfl⟩:=hms.agg;have HSP:qL (zEp R C (ent M) m2 S):=⟨HL3.out m K m2 S HLP.out hl⟩;have br:=(br.below hb4).below hb5;have hB:=nx (nx hB hb4) hb5;obtain⟨r1,r2,r3,r4,r5,r6⟩:=br.three;have HMS:=xgv hms;clear c1 c2 c3 c4 c5 c6 hu1 hl hms;go_wp2;refine zP (r:=w.heap.size+1) rfl rfl rfl (br.put3 _ _ _) ⟨_,rfl,⟨m2,S,HSP.out,HMS.out.keep3 br _ _ _⟩,zN (zN (zN hB oM 0 _) oM 1 _) oM 2 _⟩
theorem zDD.congr{R C r:Nat}{c:Nat->Nat}{A A' H H':Nat->Nat->Int}(h:zDD R C r c A H)(e1:∀a,a<R->∀b,b<C->A' a b=A a b)(e2:∀a,a<R->∀b,b<C->H a b=H' a b)(hn:Hnf C R r c H'):zDD R C r c A' H':=
 ⟨hn,h.sp.congr (fun a ha b hb=>(e2 a ha b hb).symm) e1,h.sp'.congr e1 (fun a ha b hb=>(e2 a ha b hb).symm)⟩
theorem zDD.ops{R C r:Nat}{c:Nat->Nat}{A H:Nat->Nat->Int}{l:List Op}(hl:qJ R l)(h:zDD R C r c (zA2 l A) H):zDD R C r c A H:=
 ⟨h.hnf,h.sp.trans (zGv hl A).2,(zGv hl A).1.trans h.sp'⟩
theorem zDD.self{R C r:Nat}{c:Nat->Nat}{H:Nat->Nat->Int}(h:Hnf C R r c H):zDD R C r c H H:=⟨h,zAo.refl _ _ _,zAo.refl _ _ _⟩
theorem zPj(v:Value)(R C:Int)(M:List (List Int))(w:World)(h:qX w v R C M)(hS:∀r∈M,∀z∈r,Sm z)(hb:zLM R C M):
  Calls Tryz.prog 29 #[v] w fun e w'=>∃v,e= .returned v/\v= .bool true/\Below w.heap.size w w':=by
 refine(zKl v R C M w h hS).mono ?_;rintro e w' ⟨d,rfl,hd,hb'⟩;exact⟨_,rfl,by rw[hd.2 hb],hb'⟩
def zLS(R C:Nat)(W:List (List Int)):World->Value->Prop:=fun w v=>∃U V,zCk w v R C W U V
theorem zHM(R C:Nat)(W:List (List Int)):qT (zLS R C W):=fun _ _ _ hb ⟨U,V,h⟩=>⟨U,V,h.below hb⟩
end Go.Proofs.YtgnmdddaiefooaaGreat
