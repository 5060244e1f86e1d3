/- torsionref08.Act, Columns. torsionlaw12.sanity. torsionref05: Vector, Row, Times, Act, Zero; hermite.Reduce of a row of another length. torsionref14.Check. torsionref14.Check at a column. matrix.Times, which defers a recover. Package bareiss: replaced. -/
import Derived.Defers
import Derived.Recover
import Derived.Test.YtnbmaipobhppcaaGreatD08
import Derived.Test.YtnbmaipobhppcaaGreatD09
import Derived.Test.YtnbmaipobhppcaaGreatD11
import Derived.Test.YtnbmaipobhppcaaGreatD19
import Derived.Test.YtnbmaipobhppcaaGreatD22
import Derived.Test.YtnbmaipobhppcaaGreatD23
set_option linter.unusedVariables false
set_option linter.unusedSimpArgs false
set_option linter.unusedSectionVars false
set_option maxHeartbeats 16000000
set_option maxRecDepth 100000
namespace Go.Proofs.YtnbmaipobhppcaaGreat
open Go.RowKit
theorem HQ.dotR{e h n:Nat}{q:Nat->Rat}{x:Nat->Int}(hx:∀j,j<n->(x j).natAbs<2^h)(hh:1<=h)(hq:∀j,j<n->HQ e (q j)):HQ (n*(e+h+1)+1) (jJ n fun j=>q j*(x j:Rat)):=by
 rw[qH (g:=fun j=>(x j:Rat)*q j) fun j hj=>Rat.mul_comm _ _];exact HQ.dot hx hh hq
theorem zKX(n:Nat)(f:Nat->Int × Int):jZ (n+1) f=jZ n f++ [f n]:=by simp[jZ,List.range_succ]
theorem zLD{e h:Nat}(yv mv:Value)(m C:Nat)(M:List (List Int))(q:Nat->Rat)(w:World)(hy:zAn w yv (jZ m fun t=>prQ (q t)))(hm:yP w mv m C M)(hF:jK m C M)(hM:∀a,a<m->∀b,b<C->(ent M a b).natAbs<2^h)(hh:1<=h)(hq:∀j,j<m->HQ e (q j))(hm1:m<=1000)(hC:C<=1000)(he:e+h+1<=900):
  Calls Tryz.prog 169 #[yv,mv] w fun e w'=>∃u,e= .returned u/\zAn w' u (jZ C fun i=>prQ (jJ m fun t=>q t*(ent M t i:Rat)))/\Below w.heap.size w w':=by
 obtain⟨Av,rfl,hrw⟩:=id hm;obtain⟨ao,mn,acap,rfl,e2,e3,e4,-⟩:=id hrw;obtain rfl:m=mn:=by rw[<-e2,hF.1]
 obtain⟨yo,yn,yc,rfl,g2,g3,g4,-⟩:=id hy;obtain rfl:m=yn:=by rw[<-g2,qG]
 have HR:=xgv hrw;have HF:=xgv hF;have HY:=xgv hy;have HMB:=xgv hM;have HQS:=xgv hq;have HE:qF (∀n,n<=m->n*(e+h+1)+1<=900001):=⟨fun n hn=>by
  have:n*(e+h+1)<=1000*900:=Nat.mul_le_mul oM he;omega⟩
 clear hm hrw hF hy hM hq e2 g2;go_enter Tryz.func169,Tryz.ntmps169;go_upto_region 1 with(fail)
 refine zB ?_;intro W0 hW0;obtain⟨hB0,T3,hs0⟩:=zK hW0;clear hW0;go_upto_region 2 with(fail)
 refine zB ?_;intro W1 hW1;have hb1:Below W0.heap.size W0 W1:=by rw[hW1.out];exact(Below.refl _ _).alloc (xgf _) _
 have hO:zHK W1 W0.heap.size (.slice (some ⟨W0.heap.size,0,none⟩) 0 0) []:=by rw[hW1.out];exact zHK.made W0 (xgf _)
 have T3:=T3.below hb1;have q0:=hB0.size;have hB:=nx hB0 hb1;obtain⟨base,hbase⟩:∃g,W0.heap.size=g:=⟨_,rfl⟩;rw[hbase]at hO hs0 ⊢
 have hbs:base<=W1.heap.size:=by have:=hb1.size;omega
 clear hW1 hb1 q0 hbase;go_wp2;go_loopw [5,6] (fun u iv wr=>∃i:Nat,i<=C/\iv= .int .i64 i/\zHK wr base u (jZ i fun i=>prQ (jJ m fun t=>q t*(ent M t i:Rat)))/\Below w.heap.size w wr/\Blk wr w.heap.size 28 #[.int .i64 m,.int .i64 C,.slice ao m acap]/\base<=wr.heap.size) (fun _ iv _=>C-(intOf iv).toNat)
 case atStart=>exact⟨0,by omega,rfl,hO,hB,T3,hbs⟩
 case round=>
  clear hB T3 hO hbs;obtain⟨i,hi,rfl,hO,hB,T3,hbs⟩:=hrel;obtain⟨c1,c2,c3,c4,c5,c6⟩:=T3.three;by_cases hlt:i<C
  ·go_wp2_with fail
   refine(zB5 0 wr dE dE).mono ?_;rintro e1 w1 ⟨rv,rfl,⟨s5,a5,l5,k5,s6,a6,l6,k6,rfl,i5,i6⟩,hb1⟩;have T3:=T3.below hb1;have hB:=nx hB hb1;have hO:=hO.below hb1;have I:jW w1 (.agg #[.bool s5,.slice a5 l5 k5,.bool s6,.slice a6 l6 k6]) 0:=⟨_,_,_,_,_,_,_,_,rfl,i5,i6⟩;have HI:=xgv I;clear i5 i6 I c1 c2 c3 c4 c5 c6;go_upto_region 6 with(fail)
   refine zB ?_;intro W2 hW2;have hb2:Below w1.heap.size w1 W2:=by rw[hW2.out];exact(Below.refl _ _).alloc (xgf _) _
   have T7:Blk W2 w1.heap.size tQ #[.bool s5,.slice a5 l5 k5,.bool s6,.slice a6 l6 k6]:=by rw[hW2.out];exact Blk.new _ _ _
   have HI:=xgv (HI.out.below hb2);have hlt7:w.heap.size<w1.heap.size:=by have:=hB.size;have:=T3.lt;omega
   have hbs1:base<=w1.heap.size:=by have:=hb1.size;omega
   have HO:=xgv hO;have HB:=xgv hB;have HT:=xgv T3;clear hW2 hO hB T3;go_wp2;go_loopw [8] (fun jv wr=>∃j:Nat,j<=m/\jv= .int .i64 j/\Below w1.heap.size w1 wr/\∃(y1 y3:Bool) (y2 y4:Option Addr) (l2 c2 l4 c4:Nat),Blk wr w1.heap.size tQ #[.bool y1,.slice y2 l2 c2,.bool y3,.slice y4 l4 c4]/\qF (jW wr (.agg #[.bool y1,.slice y2 l2 c2,.bool y3,.slice y4 l4 c4]) (jJ j fun t=>q t*(ent M t i:Rat)))) (fun jv _=>m-(intOf jv).toNat)
   case atStart=>exact⟨0,by omega,rfl,hb2,_,_,_,_,_,_,_,_,T7,HI⟩
   case round=>
    clear hb2 T7 HI;obtain⟨j,hj,rfl,hb,y1,y3,y2,y4,l2,c2,l4,c4,T7,HI⟩:=hrel;have T3:=HT.out.below hb;obtain⟨c1,x2,c3,x4,x5,x6⟩:=T3.three;have lt7:=T7.lt;by_cases hjm:j<m
    ·have hB:=nx HB.out hb
     obtain⟨by_,s,o,l,c,s',o',l',c',rfl,hby,e1,e2,e3,e4,hrat⟩:=zF8 (HY.out.below hB) hjm;obtain⟨bm,ra,rn,rc,zs,rfl,hbm,hz,p1,hrv⟩:=(HR.out.below hB).row (k:=j) (by rw[HF.out.1];exact hjm);obtain rfl:=HF.out.row_eq hz;obtain⟨bv,z,s1,o1,n1,k1,rfl,hbv,hzz,d1,d2,hv⟩:=hrv.cell (k:=i) (by rw[zD];exact hlt);have hrn:=hrv.len;rw[zO hlt]at hzz;injection hzz with hzz
     subst hzz;rw[zD]at hrn;have hrn1:=hrn.1;subst hrn1;have HXI:=xgv hv;have HQI:=xgv hrat;have HBX:=xgv (HMB.out j hjm i hlt);have HBQ:=xgv (HQS.out j hjm);have HSB:=xgv (HQ.dotR (n:=j) (x:=fun t=>ent M t i) (fun t ht=>HMB.out t oM i hlt) hh (fun t ht=>HQS.out t oM));have HSE:=xgv (HE.out j oM);obtain⟨SS,hSS⟩:∃SS,(jJ j fun t=>q t*(ent M t i:Rat))=SS:=⟨_,rfl⟩;rw[hSS]at HI HSB;obtain⟨xi,hxi⟩:∃xi,ent M j i=xi:=⟨_,rfl⟩;obtain⟨qi,hqi⟩:∃qi,q j=qi:=⟨_,rfl⟩;have HNX:qF ((jJ (j+1) fun t=>q t*(ent M t i:Rat))=SS+qi*(xi:Rat)):=⟨by rw[<-hSS,<-hxi,<-hqi];rfl⟩;rw[hxi]at HXI HBX;rw[hqi]at HQI HBQ;obtain⟨r1,r2,r3,r4,r5,r6,r7,r8⟩:=T7.four;have hl1:=yD (xi:Rat);have hl2:=yD (qi*(xi:Rat));have hl3:=yD (SS+qi*(xi:Rat));clear hv hrat hSS hxi hqi hz hrv hrn;go_upto_region 9 with(fail)
     refine zC 16 rfl (RV wr _ [E 0 23 (.agg #[.bool y1,.slice y2 l2 c2,.bool y3,.slice y4 l4 c4]),VSl 1 24 by_ m yc,VN 2 25 j,VP 3 26 by_ (j*4),E 4 27 (.agg #[.bool s,.slice o l c,.bool s',.slice o' l' c']),VP 5 28 w.heap.size 2,VSl 6 29 bm m acap,VN 7 30 j,VP 8 31 bm j,VSl 9 32 bv C rc,VN 10 33 i,VP 11 34 bv (i*2),E 12 35 (.agg #[.bool s1,.slice o1 n1 k1]),⟨13,36,fun w v=>jW w v (xi:Rat)⟩,⟨14,37,fun w v=>jW w v (qi*(xi:Rat))⟩,⟨15,38,fun w v=>jW w v (SS+qi*(xi:Rat))⟩]) kR RV.start (RV.fin kR ?fin1) ?steps1
     case steps1=>
      refine⟨?_,?_,?_,?_,?_,?_,?_,?_,?_,?_,?_,?_,?_,?_,?_,?_,trivial⟩<;>(intro L T wS hL hd hcl hI K hK;try refine zA rfl ?_)
      ·have zt:=hI.k 7 rfl kR
       have cc0:=hI.cell r1;have cc1:=hI.cell r2;have cc2:=hI.cell r3;have cc3:=hI.cell r4;exact xgu
      ·exact xgs (hI.k 0 rfl kR)
      ·exact xgs (hI.k 8 rfl kR)
      ·exact xgt (hI.e mm1 (hd 1)) (hI.e mm2 (hd 2))
      ·have zt3:=hI.e mm3 (hd 3)
       have cc0:=hI.cell e1;have cc1:=hI.cell e2;have cc2:=hI.cell e3;have cc3:=hI.cell e4;exact xgu
      ·exact xgs (hI.k 3 rfl kR)
      ·have zt5:=hI.e mm5 (hd 5)
       have cc0:=hI.cell c3;exact xgu
      ·exact xgs (hI.k 8 rfl kR)
      ·exact xgt (hI.e mm6 (hd 6)) (hI.e mm7 (hd 7))
      ·have zt8:=hI.e mm8 (hd 8)
       have cc0:=hI.cell p1;exact xgu
      ·exact xgs (hI.k 6 rfl kR)
      ·exact xgt (hI.e mm9 (hd 9)) (hI.e zAC (hd 10))
      ·have zt11:=hI.e zAJ (hd 11)
       have cc0:=hI.cell d1;have cc1:=hI.cell d2;exact xgu
      ·have zt12:=hI.e zAo (hd 12)
       go_simp;refine(zCn _ xi _ (HXI.out.ext (lx hI.bel))).mono ?_;rintro e wa ⟨v,rfl,hv,hba⟩;exact hK _ _ ((hI.world hba).y zCF hv)
      ·have zt4:=hI.e mm4 (hd 4)
       obtain⟨v13,zt13,h13⟩:=hI.v zCF (hd 13);go_simp;refine(zGy (a:=e) (b:=h) _ _ qi _ _ (HQI.out.below hI.bel) h13 HBQ.out (HQ.int HBX.out hh) oM).mono ?_;rintro e wa ⟨v,rfl,hv,hba⟩;exact hK _ _ ((hI.world hba).y zBp hv)
      ·have zt0:=hI.e mm0 (hd 0)
       obtain⟨v14,zt14,h14⟩:=hI.v zBp (hd 14);go_simp;refine(zGx _ _ SS _ _ (HI.out.below hI.bel) h14 HSB.out (HQ.mul HBQ.out (HQ.int HBX.out hh)) (by have:=HSE.out;omega)).mono ?_;rintro e wa ⟨v,rfl,hv,hba⟩;exact hK _ _ ((hI.world hba).y zCS hv)
     intro w2 hbw2 T hT;simp only[Fin,E,EI,VP,VSl,VN,xgg,xgh,xgi,xgj]at hT;obtain⟨va13,ha13,va14,ha14,va15,ha15,rfl⟩:=hT;simp only[xgl,xgk];obtain⟨s5,a5,l5,k5,s6,a6,l6,k6,rfl,i5,i6⟩:=(show jW _ _ _ from ha15);have I:jW w2 (.agg #[.bool s5,.slice a5 l5 k5,.bool s6,.slice a6 l6 k6]) (SS+qi*(xi:Rat)):=⟨_,_,_,_,_,_,_,_,rfl,i5,i6⟩;have HI2:=xgv I;have T7:=T7.below hbw2;have hb:=nx hb hbw2;clear i5 i6 I r1 r2 r3 r4 r5 r6 r7 r8 d1 d2 e1 e2 e3 e4 ha13 ha14 c1 x2 c3 x4 x5 x6 p1 hB;obtain⟨r1,r2,r3,r4,r5,r6,r7,r8⟩:=T7.four;go_wp2;go_roundw
     case rel=>exact⟨j+1,by omega,by simp,jC hb (xgf _) 0 _ _ _ _,_,_,_,_,_,_,_,_,T7.put4 _ _ _ _,⟨by rw[HNX.out];exact HI2.out.ext (T7.lext4 dE 0 _ _ _ _)⟩⟩
     case measure=>simp[intOf];omega
    ·obtain rfl:j=m:=by omega
     have hO:=HO.out.below hb;have hB:=nx HB.out hb;have hgl:(jZ i fun i=>prQ (jJ j fun t=>q t*(ent M t i:Rat))).length=i:=qG _ _;have hsb:=hb.size;have HI:=xgv (HI.out.below ((Below.refl _ _).alloc (xgf _) (.cells #[.bool y1,.slice y2 l2 c2,.bool y3,.slice y4 l4 c4] tQ)));obtain⟨r1,r2,r3,r4,r5,r6,r7,r8⟩:=T7.four;obtain⟨z1,z2,z3,z4,z5,z6,z7,z8,zz,i5,i6⟩:=HI.out;simp only[Value.agg.injEq,Array.mk.injEq,List.cons.injEq,Value.bool.injEq,Value.slice.injEq,and_true]at zz;obtain⟨rfl,⟨rfl,rfl,rfl⟩,rfl,⟨rfl,rfl,rfl⟩⟩:=zz;have I5:=xgv i5;have I6:=xgv i6;clear i5 i6 x2 c3;go_wp2_with (at_builtin;go_loud (refine zQk rfl _ _ rfl base u5 (jZ i fun i=>prQ (jJ j fun t=>q t*(ent M t i:Rat))) rfl (hO.below ((Below.refl _ _).alloc (xgf _) _)) wr.heap.size 1 _ _ _ _ _ _ _ _ (prQ (jJ j fun t=>q t*(ent M t i:Rat))) rfl (Blk.new _ _ _) I5.out I6.out (by rw[hgl];omega) (by simp;omega) ?_;intro v' w' hown hgr hxg))
     have hgr:World.grownBy (wr.alloc (.cells #[.bool y1,.slice y2 l2 c2,.bool y3,.slice y4 l4 c4] tQ)) w' u5.ownBlock:=hgr;have hT3:Blk wr w.heap.size 28 #[.int .i64 j,.int .i64 C,.slice ao j acap]:=T3;have hB9:Below w.heap.size w w':=(hB.alloc hB.size _).grown hgr (by have:=hB.size;simp;omega) (fun g hg=>by have:=hO.own g hg;omega);have hgs:=hgr.size;simp at hgs;go_roundw
     case rel=>exact⟨i+1,by omega,by simp,by rw[zKX];exact hown,hB9,(hgr.block _ (by have:=hT3.lt;simp;omega) (fun e=>by have:=hO.own _ e.symm;omega)).trans (hT3.alloc _),by omega⟩
     case measure=>simp[intOf];omega
  ·obtain rfl:i=C:=by omega
   go_wp2;go_ret;exact⟨_,rfl,hO.prs,hB⟩
theorem zGz(v:Value)(R C:Nat)(M:List (List Int))(w:World)(h:yP w v R C M)(hF:jK R C M)(hR:R<=1000000)(hC:C<=1000000):
  Calls Tryz.prog 89 #[v] w fun e w'=>∃v,e= .returned v/\yP w' v C R (zX C R (fun a b=>ent M b a))/\Below w.heap.size w w':=
 (zEh v R C M w h hF hR hC).mono fun e w' ⟨v,bs,h,hm,hb⟩=>⟨v,h,hm.mat.1,hb⟩
theorem zJW{e h:Nat}(mv yv:Value)(R C:Nat)(M:List (List Int))(q:Nat->Rat)(w:World)(hm:yP w mv R C M)(hy:zAn w yv (jZ C fun t=>prQ (q t)))(hF:jK R C M)(hM:∀a,a<R->∀b,b<C->(ent M a b).natAbs<2^h)(hh:1<=h)(hq:∀j,j<C->HQ e (q j))(hR:R<=1000)(hC:C<=1000)(he:e+h+1<=900):
  Calls Tryz.prog 77 #[mv,yv] w fun e w'=>∃u,e= .returned u/\zAn w' u (jZ R fun i=>prQ (zBQ C (ent M i) q))/\Below w.heap.size w w':=by
 have HM:=xgv hm;obtain⟨Av,rfl,hrw⟩:=id hm;obtain⟨ao,mn,acap,rfl,e2,e3,e4,-⟩:=id hrw;have HF:=xgv hF;have HY:=xgv hy;have HQS:=xgv hq;have HTB:qF (∀a,a<C->∀b,b<R->(ent (zX C R fun a b=>ent M b a) a b).natAbs<2^h):=⟨fun a ha b hb=>by rw[yU ha hb];exact hM b hb a ha⟩;have HEQ:qF ((jZ R fun i=>prQ (jJ C fun t=>q t*(ent (zX C R fun a b=>ent M b a) t i:Rat)))=jZ R fun i=>prQ (zBQ C (ent M i) q)):=⟨zAd fun i hi=>by
  unfold zBQ;rw[qH fun t ht=>by rw[yU ht hi,Rat.mul_comm]]⟩
 obtain⟨yo,yn,yc,rfl,g2,g3,g4,-⟩:=id hy;clear hrw hy hF hm hM hq e2 g2;go_enter Tryz.func77,Tryz.ntmps77;go_upto_region 1 with(fail)
 refine zB ?_;intro W0 hW0;obtain⟨hB0,T2,hs0⟩:=zK hW0;obtain⟨c1,c2,c3,c4,c5,c6⟩:=T2.three;clear hW0;go_wp2_with fail
 refine(zGz _ R C M W0 (HM.out.below hB0) HF.out oM oM).mono ?_;rintro e1 w1 ⟨tv,rfl,ht,hb1⟩;have HT:=xgv ht;clear ht;go_wp2_with fail
 refine(zLD (e:=e) (h:=h) _ tv C R (zX C R fun a b=>ent M b a) q w1 (HY.out.below (nx hB0 hb1)) HT.out (zAV _ _ _) HTB.out hh HQS.out hC hR he).mono ?_;rintro e2 w2 ⟨u,rfl,hu,hb2⟩;rw[HEQ.out]at hu;have HU:=xgv hu;clear hu;go_wp2;go_ret;exact⟨_,rfl,HU.out,nx (nx hB0 hb1) hb2⟩
def zRB(q r:List Int):World->Value->Prop:=fun w v=>∃qv rv,v= .tuple #[qv,rv,.int .i64 0]/\qT w qv q/\qT w rv r
def zRE(xs:List Int):World->Value->Prop:=fun w v=>∃b rv,v= .pointer (some ⟨b,0,none⟩)/\b<w.heap.size/\w.cell? ⟨b,0,none⟩=some rv/\qT w rv xs
def zQf:World->Value->Prop:=fun w v=>∃H U V,zHO w v 0 3 H U V/\zPn 0 3 [] H U V
theorem nxd{W W':World}{o:Obj}(h:Below (W.alloc o).heap.size (W.alloc o) W'):Below W.heap.size W W':=nxa (Below.refl _ _) h
abbrev zQt:=fun{α:Type}{a b c d e f g h i j k L m n o p q r s t u v w X y z a1 b1 c1 d1 e1 f1 g1 h1 i1 j1 k1 l1 m1 n1 o1 x:α}{l:List α}=>List.Mem.tail a (@zOs α b c d e f g h i j k L m n o p q r s t u v w X y z a1 b1 c1 d1 e1 f1 g1 h1 i1 j1 k1 l1 m1 n1 o1 x l)
theorem zDS(a b c:Value)(W:World):(Instr.field 28 (.agg #[a,b,c]) 2).run Tryz.prog W= .ok c W:=by kernel_rfl
theorem zJo(v:Value)(n:Nat)(ls:List Int)(w:World)(h:I8V w v ls)(hn:n<=16):
  Calls Tryz.prog 16 #[v,.int .i64 n] w fun e w'=>∃u,e= .returned u/\qT w' u (zM n (zHL n ls 0))/\Below w.heap.size w w':=by
 obtain⟨ao,m,cap,rfl,-⟩:=id h;go_enter Tryz.func16,Tryz.ntmps16;go_wp2_with fail
 refine(zFK _ 1 n ls w h oM hn).mono ?_;rintro e w1 ⟨u,bs,rfl,⟨hbl,A2,rfl,ho⟩,hb1⟩;have hr:=ho.rows;obtain⟨oo,on,oc,rfl,o2,o3,o4,-⟩:=id hr;obtain⟨b,ra,rn,rc,zs,rfl,hbl2,hz,p1,hrv⟩:=hr.row (k:=0) (by simp[zX]);have hF:jK 1 n (zX 1 n (zHL n ls)):=zAV _ _ _;obtain rfl:=hF.row_eq hz;have hon:on=1:=by rw[<-o2];simp[zX]
 subst hon;have he:zM n (ent (zX 1 n (zHL n ls)) 0)=zM n (zHL n ls 0):=zP fun t ht=>yU oM ht
 rw[he]at hrv;clear ho hr hz hF o2 he;have hfl:=zDS;go_wp2;go_ret;exact⟨_,rfl,hrv,hb1⟩
theorem zOf(v:Value)(C:Nat)(x:Nat->Int)(w:World)(h:qT w v (zM C x)):
  Calls Tryz.prog 23 #[v] w fun e w'=>∃u,e= .returned u/\yP w' u 1 C [zM C x]/\Below w.heap.size w w':=by
 obtain⟨ao,m,cap,rfl,h2,h3,h4,-⟩:=id h;rw[zD]at h2;subst h2;have HX:=xgv h;clear h;go_enter Tryz.func23,Tryz.ntmps23;go_upto_region 1 with(fail)
 refine zB ?_;intro W0 hW0;obtain⟨hb0,br,hs0⟩:=zK hW0;clear hW0;obtain⟨r1,r2,r3,r4,r5,r6⟩:=br.three;go_wp2;refine qY rfl rfl rfl ((br.put3 _ _ _).alloc _) ⟨_,rfl,?_,?_⟩
 ·have hV:qT ((((W0.setCell ⟨w.heap.size,0,none⟩ (.int .i64 1)).setCell ⟨w.heap.size,1,none⟩ (.int .i64 C)).setCell ⟨w.heap.size,2,none⟩ (.slice (some ⟨W0.heap.size,0,none⟩) 1 1)).alloc (.cells #[.slice ao C cap] 30)) (.slice ao C cap) (zM C x):=
   HX.out.below ((zT (zT (zT hb0 (xgf _) 0 _) (xgf _) 1 _) (xgf _) 2 _).alloc (by simp;omega) _)
  have hblk:=Blk.new (((W0.setCell ⟨w.heap.size,0,none⟩ (.int .i64 1)).setCell ⟨w.heap.size,1,none⟩ (.int .i64 C)).setCell ⟨w.heap.size,2,none⟩ (.slice (some ⟨W0.heap.size,0,none⟩) 1 1)) 30 #[.slice ao C cap];rw[show((((W0.setCell ⟨w.heap.size,0,none⟩ (.int .i64 1)).setCell ⟨w.heap.size,1,none⟩ (.int .i64 C)).setCell ⟨w.heap.size,2,none⟩ (.slice (some ⟨W0.heap.size,0,none⟩) 1 1))).heap.size=W0.heap.size by simp]at hblk;refine⟨_,rfl,_,1,1,rfl,rfl,xgf _,by omega,fun _=>⟨W0.heap.size,#[.slice ao C cap],rfl,hblk,fun k zs hk=>?_⟩⟩;have hk0:k=0:=by
   have:=(xge.1 hk).1;simp at this;omega
  subst hk0;simp at hk;subst hk;exact⟨_,rfl,hV⟩
 ·exact(zT (zT (zT hb0 (xgf _) 0 _) (xgf _) 1 _) (xgf _) 2 _).alloc (by simp;omega) _
theorem zH6{fn:Func}{a b:Tmp}(h:fn.results=#[.tmp a,.tmp b])(tmps:Array Value)(P:Program)(W:World):(results fn tmps).run P W= .ok (.tuple #[tmps.getD a undef,tmps.getD b undef]) W:=by
 simp[results,h]
theorem zHz(vv hv:Value)(R C:Nat)(M:List (List Int))(x:Nat->Int)(w:World)(hx:qT w vv (zM R x))(h:yP w hv R C M)(hF:jK R C M)(hR:R<=1000000)(hC:C<=1000000)(hS:zCt [zM R x] M 1 R C):
  Calls Tryz.prog 86 #[vv,hv] w fun e w'=>∃u,e= .returned (.tuple #[u,.int .i64 0])/\qT w' u (zM C (zCj [zM R x] M R 0))/\Below w.heap.size w w':=by
 have h0:=h;obtain⟨A,rfl,h⟩:=h;obtain⟨mo,mn,mc,rfl,-⟩:=id h;obtain⟨ao,m,cap,rfl,h2,h3,h4,-⟩:=id hx;rw[zD]at h2;subst h2;have HF:=xgv hF;have HS:=xgv hS;have H0:=xgv h0;have HX:=xgv hx;clear hF hS h0 hx h;go_enter Tryz.func86,Tryz.ntmps86;go_upto_region 1 with(fail)
 refine zB ?_;intro W0 hW0;obtain⟨hb0,br,hs0⟩:=zK hW0;obtain⟨r1,r2,r3,r4,r5,r6⟩:=br.three;have hM:=H0.out.below hb0;have hX:=HX.out.below hb0;have hl1:qS (fun w v=>yP w v 1 R [zM R x]):=fun _ _ _ e h=>h.below e
 have hl2:qS (fun w v=>yP w v 1 C (zX 1 C (zCj [zM R x] M R))):=fun _ _ _ e h=>h.below e
 have hFr:qF (jK 1 R [zM R x]):=⟨rfl,fun r hr=>by simp at hr;subst hr;exact zD _ _⟩;have hlt:=br.lt;clear hW0;go_upto_region 3 with(fail)
 refine zC 4 rfl (RV W0 _ [E 0 11 (.slice ao R cap),⟨1,12,fun w v=>yP w v 1 R [zM R x]⟩,E 2 13 (.agg #[.int .i64 R,.int .i64 C,.slice mo mn mc]),⟨3,14,fun w v=>yP w v 1 C (zX 1 C (zCj [zM R x] M R))⟩]) kR RV.start (RV.fin kR ?fin1) ?steps1
 case steps1=>
  refine⟨?_,?_,?_,?_,trivial⟩<;>(intro L T wS hL hd hcl hI K hK;try refine zA rfl ?_)
  ·exact xgs (hI.k 0 rfl kR)
  ·have zt0:=hI.e mm0 (hd 0)
   go_simp;refine(zOf _ R x _ (hX.below hI.bel)).mono ?_;rintro e wa ⟨v,rfl,hv,hba⟩;exact hK _ _ ((hI.world hba).y mm1 hv)
  ·have zt:=hI.k 3 rfl kR
   have cc0:=hI.cell r1;have cc1:=hI.cell r2;have cc2:=hI.cell r3;exact xgu
  ·obtain⟨v1,zt1,h1⟩:=hI.v mm1 (hd 1)
   have zt2:=hI.e mm2 (hd 2);go_simp;refine(zJV _ _ 1 R C [zM R x] M _ h1 (hM.below hI.bel) hFr.out HF.out oM hR hC HS.out).mono ?_;rintro e wa ⟨v,rfl,hv,hba⟩;exact hK _ _ ((hI.world hba).y mm3 hv)
 intro w3 hbw3 T hT;simp only[Fin,E,EI,VP,VSl,VN,xgg,xgh,xgi,xgj]at hT;obtain⟨va1,ha1,va3,ha3,rfl⟩:=hT;simp only[xgl,xgk];obtain⟨A2,rfl,hr2⟩:yP w3 va3 1 C (zX 1 C (zCj [zM R x] M R)):=ha3;obtain⟨oo,on,oc,rfl,o2,o3,o4,-⟩:=id hr2;obtain⟨b,ra,rn,rc,zs,rfl,hbl2,hz,p1,hrv⟩:=hr2.row (k:=0) (by simp[zX]);have hF2:jK 1 C (zX 1 C (zCj [zM R x] M R)):=zAV _ _ _;obtain rfl:=hF2.row_eq hz;have hon:on=1:=by rw[<-o2];simp[zX]
 subst hon;have he:zM C (ent (zX 1 C (zCj [zM R x] M R)) 0)=zM C (zCj [zM R x] M R 0):=zP fun t ht=>yU oM ht
 rw[he]at hrv;have hfl:=zDS;have hB:=nx hb0 hbw3;clear hr2 hz hF2 o2 he ha1 r1 r2 r3 r4 r5 r6 hl1 hl2;go_wp2;refine bodyPost_ret (zH6 rfl _ _ _) rfl ?_;exact⟨_,rfl,hrv,hB⟩
theorem zNl(vv hv:Value)(R C:Nat)(M:List (List Int))(x:Nat->Int)(w:World)(hx:qT w vv (zM R x))(h:yP w hv R C M)(hF:jK R C M)(hR:R<=1000000)(hC:C<=1000000)(hS:zCt [zM R x] M 1 R C):
  Calls Tryz.prog 21 #[vv,hv] w fun e w'=>∃u,e= .returned u/\qT w' u (zM C (zCj [zM R x] M R 0))/\Below w.heap.size w w':=by
 have h0:=h;obtain⟨A,rfl,h⟩:=h;obtain⟨mo,mn,mc,rfl,-⟩:=id h;obtain⟨ao,m,cap,rfl,-,-,-,-⟩:=id hx;have HF:=xgv hF;have HS:=xgv hS;have H0:=xgv h0;have HX:=xgv hx;clear hF hS h0 hx h;go_enter Tryz.func21,Tryz.ntmps21;go_upto_region 1 with(fail)
 refine zB ?_;intro W0 hW0;obtain⟨hb0,br,hs0⟩:=zK hW0;obtain⟨r1,r2,r3,r4,r5,r6⟩:=br.three;clear hW0;go_wp2_with fail
 refine(zHz _ _ R C M x W0 (HX.out.below hb0) (H0.out.below hb0) HF.out hR hC HS.out).mono ?_;rintro e w1 ⟨u,rfl,hu,hb1⟩;have hB:=nx hb0 hb1;go_wp2;go_ret;exact⟨_,rfl,hu,hB⟩
def zE8(R C:Nat)(A:Nat->Nat->Int)(y:Nat->Int)(xs:List Int)(k:Nat):Bool:=decide (xs.length=R) && decide (k=0) && decide (zM C (fun j=>qE R fun i=>xs.getD i 0*A i j)=zM C y)
def rqL(ps:List (Int × Int))(t:Nat):Rat:=Rat.divInt (ps.getD t (0,1)).1 (ps.getD t (0,1)).2
def zE9(R C:Nat)(A:Nat->Nat->Int)(y:Nat->Int)(k:Nat)(ps:List (Int × Int)):Bool:=decide (k=0) && (decide (ps.length=C) && zC4 ps) && ((List.range R).all fun i=>isZ (zBQ C (A i) (rqL ps))) && !isZ (zBQ C y (rqL ps))
theorem zGi(xs:List Int):zM xs.length (fun i=>xs.getD i 0)=xs:=by
 refine List.ext_getElem (by simp[zM]) fun j h1 h2=>?_
 simp[zM,xgb,h2]
theorem zIV{ps:List (Int × Int)}(h:zC4 ps=true):ps=jZ ps.length fun t=>prQ (rqL ps t):=by
 refine List.ext_getElem (by simp[jZ]) fun j h1 h2=>?_
 have h3:=List.all_eq_true.1 h ps[j] (List.getElem_mem _);unfold zGI at h3;rw[decide_eq_true_eq]at h3;obtain⟨e1,e2⟩:=zMg h3.1 h3.2;simp only[jZ,List.getElem_map,List.getElem_range,prQ,rqL,xgb,xga h1,Option.getD_some,e1,e2]
theorem zNa{e:Nat}{ps:List (Int × Int)}(h:zC4 ps=true)(hq:∀p∈ps,p.1.natAbs<2^e/\p.2.natAbs<2^e){t:Nat}(ht:t<ps.length):HQ e (rqL ps t):=by
 have hm:=List.getElem_mem ht;have h3:=List.all_eq_true.1 h _ hm;unfold zGI at h3;rw[decide_eq_true_eq]at h3;have h4:=hq _ hm;unfold rqL;rw[xgb,xga ht];exact .divInt h4.1 h4.2 (by have:=h3.1;simp only[Option.getD_some];omega)
theorem zIl(v:Value)(R C:Nat)(M:List (List Int))(w:World)(h:yP w v R C M)(hF:jK R C M):Calls Tryz.prog 74 #[v] w fun e w'=>e= .returned (.bool true)/\Below w.heap.size w w':=
 (zH0 v R C M w h).mono fun e w' h=>⟨by rw[h.1,decide_eq_true hF.valid],h.2⟩
theorem zEy(mv bv xv yv:Value)(R C:Nat)(M:List (List Int))(y:Nat->Int)(xs:List Int)(ps:List (Int × Int))(w:World)(hm:yP w mv R C M)(hF:jK R C M)(hb:qT w bv (zM C y))(hx:qT w xv xs)(hp:zAn w yv ps)(hR:R<=1000)(hC:C<=1000)(hS:zCt [zM R fun i=>xs.getD i 0] M 1 R C):
  Calls Tryz.prog 19 #[mv,bv,.agg #[.bool true,xv,yv]] w fun e w'=>∃u,e= .returned u/\u= .bool (zE8 R C (ent M) y xs ps.length)/\Below w.heap.size w w':=by
 have HM:=xgv hm;obtain⟨Av,rfl,hrw⟩:=id hm;obtain⟨ao,mn,acap,rfl,e2,e3,e4,-⟩:=id hrw;obtain rfl:R=mn:=by rw[<-e2,hF.1]
 have HF:=xgv hF;have HB:=xgv hb;have HX:=xgv hx;have HP:=xgv hp;have HS:=xgv hS;obtain⟨bo,bn,bc,rfl,f2,f3,f4,-⟩:=id hb;obtain rfl:C=bn:=by rw[<-f2,zD]
 obtain⟨xo,xn,xc,rfl,g2,g3,g4,-⟩:=id hx;obtain⟨yo,yn,yc,rfl,k2,k3,k4,-⟩:=id hp;have HXN:=xgv g2;have HEQ:qF (xs.length=R->zM C (zCj [zM R fun i=>xs.getD i 0] M R 0)=zM C (fun j=>qE R fun i=>xs.getD i 0*ent M i j)):=⟨fun hl=>zP fun j hj=>by
  unfold zCj;rw[zCL];exact zU fun i hi=>by rw[zAU rfl (zO hi)]⟩
 obtain⟨ans,hans⟩:∃ans,zE8 R C (ent M) y xs ps.length=ans:=⟨_,rfl⟩;rw[hans];have HA:=xgv hans;have HYN:=xgv k2;clear hrw hF hm hb hx hp hS e2 f2 g2 k2 hans;go_enter Tryz.func19,Tryz.ntmps19;go_upto_region 1 with(fail)
 refine zB ?_;intro W0 hW0;obtain⟨hB0,T3,T5,hs0⟩:=qI hW0;obtain⟨c1,c2,c3,c4,c5,c6⟩:=T3.three;clear hW0;go_wp2_with fail
 refine(zIl _ R C M W0 (HM.out.below hB0) HF.out).mono ?_;rintro e1 w1 ⟨rfl,hb1⟩;have T3:=T3.below hb1;have T5:=T5.below hb1;have hB:=nx hB0 hb1;clear c1 c2 c3 c4 c5 c6;go_wp2_with fail
 refine(zBJ _ _ w1 (HB.out.below hB)).mono ?_;rintro e2 w2 ⟨rfl,hb2⟩;have T3:=T3.below hb2;have T5:=T5.below hb2;have hB:=nx hB hb2;obtain⟨c1,c2,c3,c4,c5,c6⟩:=T3.three;obtain⟨d1,d2,d3,d4,d5,d6⟩:=T5.three;by_cases hxl:(xn:Int)=(R:Int)
 ·obtain rfl:xn=R:=by omega
  go_wp2_with fail
  refine(zBJ _ _ w2 (HX.out.below hB)).mono ?_;rintro e3 w3 ⟨rfl,hb3⟩;have T3:=T3.below hb3;have T5:=T5.below hb3;have hB:=nx hB hb3;clear c1 c2 c3 c4 c5 c6 d1 d2 d3 d4 d5 d6;obtain⟨c1,c2,c3,c4,c5,c6⟩:=T3.three;obtain⟨d1,d2,d3,d4,d5,d6⟩:=T5.three;by_cases hyl:(yn:Int)=0
  ·obtain rfl:yn=0:=by omega
   have hxv:qT w3 (.slice xo xn xc) (zM xn fun i=>xs.getD i 0):=by
    have:=zGi xs;rw[HXN.out]at this;rw[this];exact HX.out.below hB
   have HXV:=xgv hxv;clear hxv;go_wp2_with fail
   refine(zNl _ _ xn C M _ w3 HXV.out (HM.out.below hB) HF.out oM oM HS.out).mono ?_;rintro e4 w4 ⟨u,rfl,hu,hb4⟩;rw[HEQ.out HXN.out]at hu;have hB:=nx hB hb4;have HU:=xgv hu;clear hu;go_wp2_with fail
   refine(zCp _ _ _ _ w4 HU.out (HB.out.below hB)).mono ?_;rintro e5 w5 ⟨rfl,hb5⟩;go_wp2;go_ret;refine⟨_,rfl,?_,nx hB hb5⟩;rw[<-HA.out];unfold zE8;rw[HXN.out,HYN.out];simp
  ·go_wp2
   go_ret;refine⟨_,rfl,?_,hB⟩;rw[<-HA.out];unfold zE8;rw[HXN.out,HYN.out,decide_eq_false (show ¬ yn=0 by omega)];simp
 ·go_wp2
  go_ret;refine⟨_,rfl,?_,hB⟩;rw[<-HA.out];unfold zE8;rw[HXN.out,decide_eq_false (show ¬ xn=R by omega)];simp
theorem zGt{e h:Nat}(mv bv xv yv:Value)(R C:Nat)(M:List (List Int))(y:Nat->Int)(xs:List Int)(ps:List (Int × Int))(w:World)(hm:yP w mv R C M)(hF:jK R C M)(hb:qT w bv (zM C y))(hx:qT w xv xs)(hp:zAn w yv ps)(hR:R<=1000)(hC:C<=1000)
  (hps:∀p∈ps,p.1.natAbs<2^e/\p.2.natAbs<2^e) (hM:∀a,a<R->∀b,b<C->(ent M a b).natAbs<2^h) (hy:∀j,j<C->(y j).natAbs<2^h) (hh:1<=h) (he:e+h+1<=900):
  Calls Tryz.prog 19 #[mv,bv,.agg #[.bool false,xv,yv]] w fun e w'=>∃u,e= .returned u/\u= .bool (zE9 R C (ent M) y xs.length ps)/\Below w.heap.size w w':=by
 have HM:=xgv hm;obtain⟨Av,rfl,hrw⟩:=id hm;obtain⟨ao,mn,acap,rfl,e2,e3,e4,-⟩:=id hrw;obtain rfl:R=mn:=by rw[<-e2,hF.1]
 have HF:=xgv hF;have HB:=xgv hb;have HX:=xgv hx;have HP:=xgv hp;have HPB:=xgv hps;have HMB:=xgv hM;have HYB:=xgv hy;obtain⟨bo,bn,bc,rfl,f2,f3,f4,-⟩:=id hb;obtain rfl:C=bn:=by rw[<-f2,zD]
 obtain⟨xo,xn,xc,rfl,g2,g3,g4,-⟩:=id hx;obtain⟨yo,yn,yc,rfl,k2,k3,k4,-⟩:=id hp;have HXN:=xgv g2;have HEC:qF (C*(e+h+1)+1<=1000000):=⟨by
  have:C*(e+h+1)<=1000*900:=Nat.mul_le_mul oM he;omega⟩
 obtain⟨ans,hans⟩:∃ans,zE9 R C (ent M) y xs.length ps=ans:=⟨_,rfl⟩;rw[hans];have HA:=xgv hans;have HYN:=xgv k2;clear hrw hF hm hb hx hp e2 f2 g2 k2 hans hps hM hy;go_enter Tryz.func19,Tryz.ntmps19;go_upto_region 1 with(fail)
 refine zB ?_;intro W0 hW0;obtain⟨hB0,T3,T5,hs0⟩:=qI hW0;obtain⟨c1,c2,c3,c4,c5,c6⟩:=T3.three;clear hW0;go_wp2_with fail
 refine(zIl _ R C M W0 (HM.out.below hB0) HF.out).mono ?_;rintro e1 w1 ⟨rfl,hb1⟩;have T3:=T3.below hb1;have T5:=T5.below hb1;have hB:=nx hB0 hb1;clear c1 c2 c3 c4 c5 c6;go_wp2_with fail
 refine(zBJ _ _ w1 (HB.out.below hB)).mono ?_;rintro e2 w2 ⟨rfl,hb2⟩;have T3:=T3.below hb2;have T5:=T5.below hb2;have hB:=nx hB hb2;obtain⟨c1,c2,c3,c4,c5,c6⟩:=T3.three;obtain⟨d1,d2,d3,d4,d5,d6⟩:=T5.three;by_cases hxl:(xn:Int)=0
 ·obtain rfl:xn=0:=by omega
  have hvl:=zLj (.slice yo yn yc) ps C w2 (HP.out.below hB) HPB.out oM;obtain⟨vb,hvb⟩:∃vb,(decide ((ps.length:Int)=(C:Int)) && zC4 ps)=vb:=⟨_,rfl⟩;rw[hvb]at hvl;have HVB:=xgv hvb;have HVL:=xgv hvl;clear hvb hvl;go_wp2_with fail
  refine HVL.out.mono ?_;rintro e3 w3 ⟨_,rfl,rfl,hb3⟩;have T3:=T3.below hb3;have T5:=T5.below hb3;have hB:=nx hB hb3;clear c1 c2 c3 c4 c5 c6 d1 d2 d3 d4 d5 d6 HVL;obtain⟨c1,c2,c3,c4,c5,c6⟩:=T3.three;obtain⟨d1,d2,d3,d4,d5,d6⟩:=T5.three;cases vb
  ·go_wp2
   go_ret;refine⟨_,rfl,?_,hB⟩;rw[<-HA.out];have h1:=HVB.out;rw[show decide ((ps.length:Int)=(C:Int))=decide (ps.length=C) from decide_eq_decide.2 ⟨fun g=>by omega,fun g=>by omega⟩]at h1;unfold zE9;rw[h1];simp
  ·have hv:=HVB.out
   rw[Bool.and_eq_true,decide_eq_true_eq]at hv;have hv1:ps.length=C:=by omega
   have hyl:yn=C:=by rw[<-HYN.out,hv1]
   subst hyl;have hpe:=zIV hv.2;rw[hv1]at hpe;have hq:∀j,j<yn->HQ e (rqL ps j):=fun j hj=>zNa hv.2 HPB.out oM
   have HLOW:=xgv hv.2;have hpv:zAn w3 (.slice yo yn yc) (jZ yn fun t=>prQ (rqL ps t)):=by rw[<-hpe];exact HP.out.below hB
   have HPV:=xgv hpv;have HQS:=xgv hq;have HA2:qF ((((List.range R).all fun i=>isZ (zBQ yn (ent M i) (rqL ps))) && !isZ (zBQ yn y (rqL ps)))=ans):=⟨by
    rw[<-HA.out];unfold zE9;rw[HXN.out,hv1,hv.2];simp⟩
   obtain⟨q,hqq⟩:∃q,rqL ps=q:=⟨_,rfl⟩;rw[hqq]at HPV HQS HA2;clear hv hpe hq hpv hqq HVB HLOW hv1;go_wp2_with fail
   refine(zJW (e:=e) (h:=h) _ _ R yn M q w3 (HM.out.below hB) HPV.out HF.out HMB.out hh HQS.out hR hC he).mono ?_;rintro e4 w4 ⟨u,rfl,hu,hb4⟩;obtain⟨co,cn,cc,rfl,l2,l3,l4,-⟩:=id hu;obtain rfl:R=cn:=by rw[<-l2,qG]
   have T5:=T5.below hb4;have hB:=nx hB hb4;have HU:=xgv hu;have HPV:=xgv (HPV.out.below hb4);clear hu l2 c1 c2 c3 c4 c5 c6 d1 d2 d3 d4 d5 d6 T3;go_wp2;go_loopw [8] (fun iv wr=>∃i:Nat,i<=R/\iv= .int .i64 i/\Below w4.heap.size w4 wr/\qF (∀k,k<i->isZ (zBQ yn (ent M k) q)=true)) (fun iv _=>R-(intOf iv).toNat)
   case atStart=>exact⟨0,by omega,rfl,Below.refl _ _,⟨fun k hk=>by omega⟩⟩
   case round=>
    obtain⟨i,hi,rfl,hb,hall⟩:=hrel;by_cases hlt:i<R
    ·obtain⟨bc_,s,o,l,c,s',o',l',c',rfl,hbc,e1,e2,e3,e4,hrat⟩:=zF8 (HU.out.below hb) hlt
     have HRAT:=xgv hrat;have HBD:=xgv (HQ.dot (n:=yn) (x:=ent M i) (fun j hj=>HMB.out i hlt j hj) hh HQS.out);clear hrat;go_wp2_with fail
     refine(zCX _ (zBQ yn (ent M i) q) wr HRAT.out HBD.out HEC.out).mono ?_;rintro e5 w5 ⟨_,rfl,rfl,hb5⟩;cases hz:isZ (zBQ yn (ent M i) q)
     ·go_wp2
      go_ret;refine⟨_,rfl,?_,nx hB (nx hb hb5)⟩;rw[<-HA2.out];have:((List.range R).all fun i=>isZ (zBQ yn (ent M i) q))=false:=List.all_eq_false.2 ⟨i,List.mem_range.2 hlt,by rw[hz];decide⟩;rw[this];rfl
     ·go_wp2
      go_roundw
      case rel=>exact⟨i+1,by omega,by simp,nx hb hb5,⟨fun k hk=>by
       rcases Nat.lt_or_ge k i with g|g
       ·exact hall.out k g
       ·obtain rfl:k=i:=by omega
        exact hz⟩⟩
      case measure=>simp[intOf];omega
    ·obtain rfl:i=R:=by omega
     have T5:=T5.below hb;have hB:=nx hB hb;obtain⟨d1,d2,d3,d4,d5,d6⟩:=T5.three;have HBD:=xgv (HQ.dot (n:=yn) (x:=y) HYB.out hh HQS.out);go_wp2_with fail
     refine(zLE (e:=e) (h:=h) _ _ yn y q wr (HB.out.below hB) (HPV.out.below hb) HYB.out hh HQS.out hC he).mono ?_;rintro e5 w5 ⟨rv,rfl,hrv,hb5⟩;have HRV:=xgv hrv;clear hrv;go_wp2_with fail
     refine(zCX _ (zBQ yn y q) w5 HRV.out HBD.out HEC.out).mono ?_;rintro e6 w6 ⟨_,rfl,rfl,hb6⟩;go_wp2;go_ret;refine⟨_,rfl,?_,nx (nx hB hb5) hb6⟩;rw[<-HA2.out];have:((List.range i).all fun i=>isZ (zBQ yn (ent M i) q))=true:=List.all_eq_true.2 fun k hk=>hall.out k (List.mem_range.1 hk)
     rw[this];rfl
 ·go_wp2
  go_ret;refine⟨_,rfl,?_,hB⟩;rw[<-HA.out];unfold zE9;rw[HXN.out,decide_eq_false (show ¬ xn=0 by omega)];simp
theorem zIF(w:World):CallsD Tryz.prog 166 #[] .returning w fun e u' w'=>e= .returned (.tuple #[])/\u'= .returning/\w'=w:=by
 refine callsD_of_wpS Tryz.func166 rfl fun c₀ cs hu=>?_
 apply wpS_region;cases c₀;simp_all [wpOpsS,go_sem,recoverD,Tryz.ntmps166,bodyPostS,results,Tryz.results166]
theorem zFR(v mv:Value)(zs:List Int)(M:List (List Int))(m C:Nat)(w:World)(hv0:qT w v zs)(hM:yP w mv m C M)(hl:zs.length=m)(hF:jK m C M)(hm:m<=1000000)(hC:C<=1000000)(hS:zCa zs M m C):
  Calls Tryz.prog 73 #[v,mv] w fun e w'=>∃v,e= .returned (.tuple #[v,.int .i64 0])/\zDj w.heap.size C (zM C (zCY zs M m)) w' v/\Below w.heap.size w w':=by
 have hdv:decide (qX m C M)=true:=decide_eq_true hF.valid;have HM:=xgv hM;obtain⟨A,rfl,hM⟩:=hM;obtain⟨ao,n,cap,rfl,e2,e3,e4,-⟩:=id hM;obtain rfl:m=n:=by rw[<-e2,hF.1]
 have HV:=xgv hv0;obtain⟨vo,n1,vcap,rfl,f1,f3,f4,-⟩:=id hv0;obtain rfl:m=n1:=by omega
 have HL:=xgv hl;have HF:=xgv hF;have HS:=xgv hS;clear hl hF hS e2 f1 hM hv0;have hmf:∀(fn:Fn) (first cap:Array Value) (w:World),(Instr.makeFunc fn first cap).run Tryz.prog w= .ok (.func fn first cap) w:=fun _ _ _ _=>rfl
 go_enter_defers Tryz.func73,Tryz.ntmps73;go_upto_region 1 with(fail)
 refine zB ?_;intro W0 hW0;obtain⟨hB0,bx,hs0⟩:=zK hW0;obtain⟨c1,c2,c3,c4,c5,c6⟩:=bx.three;clear hW0;go_wp2_with fail
 refine(yK _ m C M W0 (HM.out.below hB0)).mono ?_;rintro e w1 ⟨rfl,hb1⟩;rw[hdv];have bx:=bx.below hb1;have hB:=nx hB0 hb1;clear c1 c2 c3 c4 c5 c6;obtain⟨c1,c2,c3,c4,c5,c6⟩:=bx.three;go_wp2_with fail
 refine(zJN _ _ zs M m C w1 (HV.out.below hB) (HM.out.below hB) HL.out HF.out hm hC HS.out).mono ?_;rintro e w2 ⟨v2,rfl,hr,hb2⟩;have hB2:=nx hB hb2;have q:=hB.size;go_wp2;refine leaves_cons (f:=166) (args:=#[]) sI (by simp[go_sem]) ?_;refine(zIF _).mono ?_;rintro e u' w'' ⟨rfl,rfl,rfl⟩;obtain⟨g,rfl,hg,hr⟩:=hr;have HR:=xgv (show zDj w.heap.size C (zM C (zCY zs M m)) w'' (.slice (some ⟨g,0,none⟩) C C) from⟨g,rfl,by omega,hr⟩);simp only[Leaves,settle];simp[results,Tryz.results73,go_sem];exact⟨HR.out,hB2⟩
abbrev tBe:TypeId:=284
theorem zD5{w:World}{b i:Nat}{u v:Value}(hx:yO w ((w.setCell ⟨b,i,none⟩ u).setCell ⟨b,i+1,none⟩ v)):yC [b] w ((w.setCell ⟨b,i,none⟩ u).setCell ⟨b,i+1,none⟩ v):=
 ⟨zT (zT (Below.refl _ _) (Nat.zero_le _) _ _) (Nat.zero_le _) _ _,hx,fun k hk hn=>zR w b i (i+1) k u v (fun e=>hn (by rw[e];simp))⟩
theorem zCw{z:Int}:qJ z 0=0↔z=0:=by
 unfold qJ;split
 ·constructor<;>intro h<;>omega
 ·split
  ·constructor<;>intro h<;>omega
  ·constructor<;>intro h<;>omega
theorem zDx{e:Nat}(b m c:Nat)(xo zo:Option Addr)(xc zc:Nat)(rv pv:Value)(ln od:Bool)(la:Option Addr)(ll lc:Nat)(x z:Nat->Int)(q:Int)(w:World)(hb:Blk w b tBe #[rv,.bool ln,.slice la ll lc,.bool od,pv])(hq:zH w (.agg #[.bool ln,.slice la ll lc]) q)
  (hx:qT w (.slice xo m xc) (zM m x)) (hz:qT w (.slice zo m zc) (zM m z)) (hc:c<m) (hm:m<=1000000) (hq0:q≠0) (he:2*e+1<=1000000) (hqe:q.natAbs<2^e) (hxe:∀j,j<m->(x j).natAbs<2^e) (hze:∀j,j<m->(z j).natAbs<2^e):
  Calls Tryz.prog 304 #[.pointer (some ⟨b,0,none⟩),.slice xo m xc,.slice zo m zc,.int .i64 c] w fun e w'=>e= .returned (.slice (some ⟨w.heap.size,0,none⟩) m m)/\qC w' w.heap.size (zM m fun j=>(z c*x j-x c*z j)/q)/\Below w.heap.size w w':=by
 have HX:=xgv hx;have HZ:=xgv hz;have HQ:=xgv hq;have HSM:qF (Sm q/\(∀j,j<m->Sm (x j)/\Sm (z j)/\Sm (z c*x j)/\Sm (x c*z j)/\Sm (z c*x j-x c*z j))):=⟨qL hqe oM,fun j hj=>⟨qL (hxe j hj) oM,qL (hze j hj) oM,qL (zMi (hze c hc) (hxe j hj)) oM,qL (zMi (hxe c hc) (hze j hj)) oM,qL (zQ0 (zMi (hze c hc) (hxe j hj)) (zMi (hxe c hc) (hze j hj))) oM⟩⟩;have HQ0:=xgv hq0;obtain⟨F,hF⟩:∃F:Nat->Int,(fun j=>(z c*x j-x c*z j)/q)=F:=⟨_,rfl⟩;have HFE:qF (∀j,F j=(z c*x j-x c*z j)/q):=⟨fun j=>by rw[<-hF]⟩;rw[hF];have hbl:=hb.lt;clear hx hz hq hq0 he hqe hxe hze hF;have hmk:=fun W=>mkI (m:Int) m rfl oM W
 go_enter Tryz.func304,Tryz.ntmps304;go_upto_region 2 with(fail)
 refine zB ?_;intro W0 hW0;have hB0:Below w.heap.size w W0:=by rw[hW0.out];exact(Below.refl _ _).alloc (xgf _) _
 have hr:qC W0 w.heap.size (zM m (qA F (fun _=>0) 0)):=by
  rw[zCM,hW0.out];obtain⟨_,h1,-,h2⟩:=zCP (w:=w) (lo:=0) (n:=m) (Nat.zero_le _);injection h1 with h1
  injection h1 with h1
  injection h1 with h1
  rw[h1];exact h2
 clear hW0;go_wp2;go_loopw [18] (fun iv wr=>∃j:Nat,j<=m/\iv= .int .i64 j/\Below w.heap.size w wr/\qC wr w.heap.size (zM m (qA F (fun _=>0) j))) (fun iv _=>m-(intOf iv).toNat)
 case atStart=>exact⟨0,by omega,rfl,hB0,hr⟩
 case round=>
  clear hB0 hr;obtain⟨j,hj,rfl,hB,hr⟩:=hrel;by_cases hlt:j<m
  ·have hb:=hb.below hB
   have HX:=xgv (HX.out.below hB);have HZ:=xgv (HZ.out.below hB);have HQ:=xgv (HQ.out.below hB (xgf _));obtain⟨xb,xj,s1,a1,l1,k1,rfl,lx1,hxj,p1,p2,hv1⟩:=HX.out.cell (k:=j) (by rw[zD];exact hlt);obtain⟨xb',xcv,s2,a2,l2,k2,e2,-,hxc,p3,p4,hv2⟩:=HX.out.cell (k:=c) (by rw[zD];exact hc);injection e2 with e2
   injection e2 with e2
   subst e2;obtain⟨zb,zj,s3,a3,l3,k3,rfl,lz1,hzj,p5,p6,hv3⟩:=HZ.out.cell (k:=j) (by rw[zD];exact hlt);obtain⟨zb',zcv,s4,a4,l4,k4,e4,-,hzc,p7,p8,hv4⟩:=HZ.out.cell (k:=c) (by rw[zD];exact hc);injection e4 with e4
   injection e4 with e4
   subst e4;rw[zO hlt]at hxj hzj;rw[zO hc]at hxc hzc;injection hxj with hxj
   injection hzj with hzj
   injection hxc with hxc
   injection hzc with hzc
   have HS:=xgv (HSM.out.2 j hlt);have HSC:=xgv (HSM.out.2 c hc);have HFJ:=xgv (HFE.out j);rw[hxj,hzj,hxc,hzc]at HS HFJ;rw[hxc,hzc]at HSC;have V1:=xgv hv1;have V2:=xgv hv2;have V3:=xgv hv3;have V4:=xgv hv4;clear hv1 hv2 hv3 hv4 hxj hzj hxc hzc;go_upto_region 5 with(fail)
   refine zB ?_;intro W4 hW4;obtain⟨hB4,T4,hs4⟩:=zK hW4;have p3:=zI p3 hB4;have p4:=zI p4 hB4;have p5:=zI p5 hB4;have p6:=zI p6 hB4;have p7:=zI p7 hB4;have p8:=zI p8 hB4;have hb:=hb.below hB4;have hr:=hr.below hB4;have hB5:=nx hB hB4;have hQ4:=HQ.out.below hB4 (xgf _);have V1:=xgv (V1.out.below hB4 (xgf _));have V2:=xgv (V2.out.below hB4 (xgf _));have V3:=xgv (V3.out.below hB4 (xgf _));have V4:=xgv (V4.out.below hB4 (xgf _));have HQ:=xgv hQ4;obtain⟨g1,g2,g3,g4⟩:=T4.two;have ltz:=lz1;have ltx:=lx1;have lt4:=T4.lt;have q4:=hB4.size;have ltr:=hr.lt;clear hW4 p1 p2 hQ4;refine zE rfl (RI W4 (W4.heap.size) _ 35
     [VSl 0 23 zb m zc,VN 1 24 c,VP 2 25 zb (c*2),E 3 26 (.agg #[.bool s4,.slice a4 l4 k4]),E 4 27 (.agg #[.bool s1,.slice a1 l1 k1]),EI 5 28 (zcv*xj)] [⟨6,12,7,fun w v=>zH w v (zcv*xj)⟩] []) kR RI.start ?fin1 ?steps1
   case steps1=>
    refine⟨?_,?_,?_,?_,?_,?_,?_,?_,trivial⟩<;>(intro L T wS hL hd hcl hI K hK;try refine zA rfl ?_)
    ·exact xgs (hI.k 2 rfl kR)
    ·exact xgs (hI.k 3 rfl kR)
    ·exact xgt (hI.e mm0 (hd 0)) (hI.e mm1 (hd 1))
    ·have zt2:=hI.e mm2 (hd 2)
     have cc0:=hI.cell p7 oM nom;have cc1:=hI.cell p8 oM nom;exact xgu
    ·have zt:=hI.k 11 rfl kR
     have cc0:=hI.cell g1 oM nom;have cc1:=hI.cell g2 oM nom;exact xgu
    ·have zt3:=hI.e mm3 (hd 3)
     have zt4:=hI.e mm4 (hd 4);go_simp;refine(jM _ _ zcv xj _ (V4.out.ext hI.lext).weak (V1.out.ext hI.lext).weak HSC.out.2.1 HS.out.1).mono ?_;exact xgo
    ·go_simp
     exact hK _ _ (hI.alloc ⟨6,12,7,_⟩ mm0 rfl hL)
    ·obtain⟨v,t1,hv⟩:=hI.vi mm5 (hd 5)
     obtain⟨b,x,y,t2,hb1,hb2,-⟩:=hI.box _ mm0 (hd 6);obtain⟨vneg,vao,vlen,vcap,vls,rfl,hv'⟩:=id hv;have HT:=xgw t2;unfold ptr at t2;obtain⟨k1,k2,k3,k4⟩:=hb2.two;go_simp;exact hK _ _ (hI.store ⟨6,12,7,_⟩ mm0 rfl (hd 6) HT.out hv)
   intro T w5 hI;have hT:=hI.finx kR kR;have hlw5:=hI.lext;have hbw5:=hI.bel (W4.heap.size) oM nom;have holdw5:=hI.old;clear hI;simp only[zEH,zD1,E,EI,ptr,xgm,List.not_mem_nil,false_implies,implies_true,and_true,true_and,xgg,xgh,xgi,xgj]at hT;obtain⟨va5,ha5,ca6,xa6,ya6,ga6,ka6,ia6,rfl⟩:=hT;have T12:=jR.mk ka6 ia6;have hb:=hb.below hbw5;have hr:=hr.below hbw5;have hB6:=nx hB5 hbw5;have V2:=xgv (V2.out.ext (lx hbw5));obtain⟨t1,ta,tl,tc,T12,i12⟩:=id T12;have V12:=xgv i12;have p3:=zI p3 hbw5;have p4:=zI p4 hbw5;have p5:=zI p5 hbw5;have p6:=zI p6 hbw5;have hQ5:=HQ.out.ext (lx hbw5);have V3:=xgv (V3.out.ext (lx hbw5));have HQ:=xgv hQ5;have ltc:=ka6.lt;clear hQ5 i12 ka6 ia6 ha5 g1 g2 g3 g4 p7 p8;have ga:=ga6;go_upto_region 6 with(fail)
   rename_i K1 hK1 K0 hK0;have HK1:=xgv hK1;obtain⟨V,hV⟩:∃V,zcv*xj-xcv*zj=V:=⟨_,rfl⟩;have HVE:=xgv hV;have HSV:qF (Sm V):=⟨by rw[<-hV];exact HS.out.2.2.2.2⟩;have HFV:qF (F j=V/q):=⟨by rw[HFJ.out,hV]⟩;clear hK1 hV HFJ ga6;have body:∀{u19 u20 u21 u22 u23 u24 u25 u26 u27 u28 u29 u30 u31 u32 u33 u34 u35 u36 u37 u38 u39 u40 u41 u42 u43 u44 u45 u46 u47 u48 u49 u50 u51 u52 u53 u54 u55 u56 u57 u58 u59 u60 u61 u62 u63 u64 u65 u66 u67:Value} (wX:World),yC [ca6] w5 wX->jR wX ca6 V->K1 {tmps:=#[.pointer (some ⟨b,0,none⟩),.slice (some ⟨xb,0,none⟩) m xc,.slice (some ⟨zb,0,none⟩) m zc,.int .i64 c,undef,undef,undef,undef,.slice none 0 0,.slice (some ⟨w.heap.size,0,none⟩) m m,.int .i64 j,.pointer (some ⟨wr.heap.size,0,none⟩),.pointer (some ⟨ca6,0,none⟩),.slice (some ⟨xb,0,none⟩) m xc,.int .i64 m,.slice (some ⟨w.heap.size,0,none⟩) m m,.slice (some ⟨xb,0,none⟩) m xc,.int .i64 m,.int .i64 j,u19,u20,u21,u22,u23,u24,u25,u26,u27,u28,u29,u30,u31,u32,u33,u34,u35,u36,u37,u38,u39,u40,u41,u42,u43,u44,u45,u46,u47,u48,u49,u50,u51,u52,u53,u54,u55,u56,u57,u58,u59,u60,u61,u62,u63,u64,u65,u66,u67,undef],defers:=[]} wX:=by
    intro u19 u20 u21 u22 u23 u24 u25 u26 u27 u28 u29 u30 u31 u32 u33 u34 u35 u36 u37 u38 u39 u40 u41 u42 u43 u44 u45 u46 u47 u48 u49 u50 u51 u52 u53 u54 u55 u56 u57 u58 u59 u60 u61 u62 u63 u64 u65 u66 u67 wX hX hT;refine HK1.out _ _ ?_;have qB:=hB.size;have hbX:Blk wX b tBe #[rv,.bool ln,.slice la ll lc,.bool od,pv]:=(hX.old _ hb.lt (by simp;omega)).trans hb;have hrX:=hr.only hX (by simp;omega);have hQX:=HQ.out.ext hX.lext;have hBX:Below w.heap.size w wX:=Below.only hB6 hX (xgf _) (fun k hk=>by simp at hk;omega);obtain⟨t1,ta,tl,tc,T12,i12⟩:=hT;have V12:=xgv i12;have HQ:=xgv hQX;have e1:=hbX.cell 1;have e2:=hbX.cell 2;obtain⟨f1,f2,f3,f4⟩:=T12.two;have n1:=hbX.lt;have n2:=hrX.lt;have n3:=T12.lt;have hl3:=zFO V q;have hl4:qS (fun _ _=>True):=fun _ _ _ _ _=>trivial
    clear HK1 hK0 hX hb hr hQX hB6 i12 hB5 hB4 hB p3 p4 p5 p6 lx1 lz1;refine zE rfl (RAS ([]) 99 wX _ [⟨0,55,fun _ v=>v= .slice (some ⟨w.heap.size,0,none⟩) m m⟩,⟨1,56,fun _ v=>v= .int .i64 j⟩,⟨2,57,fun _ v=>v= .agg #[.bool t1,.slice ta tl tc]⟩,⟨3,58,fun _ v=>v= .pointer (some ⟨b,0,none⟩)⟩,⟨4,59,fun _ v=>v= .pointer (some ⟨b,0,none⟩)⟩,⟨5,60,fun _ v=>v= .pointer (some ⟨b,1,none⟩)⟩,⟨6,61,fun _ v=>v= .agg #[.bool ln,.slice la ll lc]⟩,⟨7,62,DMV V q⟩,⟨8,54,DMV V q⟩,⟨9,63,fun w v=>zH w v (V/q)⟩,⟨10,64,fun _ _=>True⟩,⟨11,65,fun _ v=>v= .int .i64 0⟩,⟨12,66,fun _ v=>v= .pointer (some ⟨w.heap.size,j*2,none⟩)⟩] 13 (zOZ 66 63)) kR (RAS.start (RA.start kR (by repeat' (first|exact yJ _|exact jD _|exact yR _ _ _|exact qW _|assumption|refine xgm.2 ⟨?_,?_⟩|exact xgn _)))) ?fin2 ?steps2
    case steps2=>
     refine⟨?_,?_,?_,?_,?_,?_,?_,?_,?_,?_,?_,?_,?_,?_,trivial⟩
     ·refine zF.liftA kR dE ?_
      intro L T wS hL hd hcl hI K hK;try refine zA rfl ?_
      have zt:T[9]?=some (.slice (some ⟨w.heap.size,0,none⟩) m m):=hI.keep 9 sI;go_simp;exact hK _ _ (hI.y mm0 rfl)
     ·refine zF.liftA kR dE ?_
      intro L T wS hL hd hcl hI K hK;try refine zA rfl ?_
      have zt:T[10]?=some (.int .i64 j):=hI.keep 10 sI;go_simp;exact hK _ _ (hI.y mm1 rfl)
     ·refine zF.liftA kR dE ?_
      intro L T wS hL hd hcl hI K hK;try refine zA rfl ?_
      have zt:T[12]?=some (.pointer (some ⟨ca6,0,none⟩)):=hI.keep 12 sI;have cc0:=hI.cell (sI) oM f1;have cc1:=hI.cell (sI) oM f2;go_simp;exact hK _ _ (hI.y mm2 rfl)
     ·refine zF.liftA kR dE ?_
      intro L T wS hL hd hcl hI K hK;try refine zA rfl ?_
      have zt:T[0]?=some (.pointer (some ⟨b,0,none⟩)):=hI.keep 0 sI;go_simp;exact hK _ _ (hI.y mm3 rfl)
     ·refine zF.liftA kR dE ?_
      intro L T wS hL hd hcl hI K hK;try refine zA rfl ?_
      obtain⟨_,zt3,rfl⟩:=hI.v mm3 (hd 3);go_simp;exact hK _ _ (hI.y mm4 rfl)
     ·refine zF.liftA kR dE ?_
      intro L T wS hL hd hcl hI K hK;try refine zA rfl ?_
      obtain⟨_,zt4,rfl⟩:=hI.v mm4 (hd 4);go_simp;exact hK _ _ (hI.y mm5 rfl)
     ·refine zF.liftA kR dE ?_
      intro L T wS hL hd hcl hI K hK;try refine zA rfl ?_
      obtain⟨_,zt5,rfl⟩:=hI.v mm5 (hd 5);have cc0:=hI.cell (sI) oM e1;have cc1:=hI.cell (sI) oM e2;go_simp;exact hK _ _ (hI.y mm6 rfl)
     ·refine zF.liftA kR dE ?_
      intro L T wS hL hd hcl hI K hK;try refine zA rfl ?_
      obtain⟨_,zt2,rfl⟩:=hI.v mm2 (hd 2);obtain⟨_,zt6,rfl⟩:=hI.v mm6 (hd 6);go_simp;refine(zHb _ _ V q _ (V12.out.ext hI.onl.lext).weak (HQ.out.ext hI.onl.lext).weak HSV.out HSM.out.1 HQ0.out).mono ?_;rintro e wa ⟨v,rfl,hv,hba⟩;exact hK _ _ ((hI.world hba).y mm7 hv)
     ·refine zF.liftA kR dE ?_
      intro L T wS hL hd hcl hI K hK;try refine zA rfl ?_
      obtain⟨v7,zt7,h7⟩:=hI.v mm7 (hd 7);go_simp;exact hK _ _ (hI.y mm8 h7)
     ·refine zF.liftA kR dE ?_
      intro L T wS hL hd hcl hI K hK;try refine zA rfl ?_
      obtain⟨v8,zt8,h8⟩:=hI.v mm8 (hd 8);obtain⟨qq,rr,rfl,hq,hr⟩:=h8;go_simp;exact hK _ _ (hI.y mm9 hq)
     ·intro L T wS hL hd hcl hI K hK
      try refine zA rfl ?_
      obtain⟨w0,hJ,-,-⟩:=id hI;obtain⟨z11,zt11,hz11⟩:=hJ.val _ mm8 (hd 8);obtain⟨qq,rr,rfl,hq,hr⟩:DMV V q w0 z11:=hz11;go_simp;exact hK _ _ (hI.pure ⟨10,64,_⟩ zAC rfl (fun _=>trivial) dE (fun _=>zD9 dE dE))
     ·intro L T wS hL hd hcl hI K hK
      try refine zA rfl ?_
      obtain⟨w0,hJ,-,-⟩:=id hI;obtain⟨z11,zt11,hz11⟩:=hJ.val _ mm8 (hd 8);obtain⟨qq,rr,rfl,hq,hr⟩:DMV V q w0 z11:=hz11;go_simp;exact hK _ _ (hI.pure ⟨11,65,_⟩ zAJ rfl (fun _=>rfl) dE (fun _=>zD9 dE dE))
     ·refine zF.liftA kR dE ?_
      intro L T wS hL hd hcl hI K hK;try refine zA rfl ?_
      obtain⟨_,zt0,rfl⟩:=hI.v mm0 (hd 0);obtain⟨_,zt1,rfl⟩:=hI.v mm1 (hd 1);go_simp;exact hK _ _ (hI.y zAo rfl)
     ·intro L T wS hL hd hcl hI K hK
      try refine zA rfl ?_
      replace hI:=hI.here hL;obtain⟨_,zt15,rfl⟩:=hI.v zAo (hd 12);obtain⟨z12,zt12,hz12⟩:=hI.v mm9 (hd 9);obtain⟨vneg,vao,vlen,vcap,vls,rfl,hv'⟩:=id hz12;obtain⟨_,_,_,_,y1,y2,y3,y4,-⟩:=(hrX.only hI.onl sI).cell (zO hlt);go_simp;exact hK _ _ (RAS.store hI hL (by repeat' (first|exact xgn _|refine xgm.2 ⟨by dsimp only;decide,?_⟩)) dE (zF9 zt15 zt12).symm)
    intro T w8f hJ;obtain⟨w8,hI,-,hstw8⟩:=hJ;replace hstw8:=hstw8 kR;obtain⟨vz0,q0,rfl⟩:=hI.v mm0 rfl;obtain⟨vz1,q1,rfl⟩:=hI.v mm1 rfl;obtain⟨vz2,q2,rfl⟩:=hI.v mm2 rfl;obtain⟨vz3,q3,rfl⟩:=hI.v mm3 rfl;obtain⟨vz4,q4,rfl⟩:=hI.v mm4 rfl;obtain⟨vz5,q5,rfl⟩:=hI.v mm5 rfl;obtain⟨vz6,q6,rfl⟩:=hI.v mm6 rfl;obtain⟨vz7,q7,hz7⟩:=hI.v mm7 rfl;obtain⟨vz8,q8,hz8⟩:=hI.v mm8 rfl;obtain⟨vz9,q9,hz9⟩:=hI.v mm9 rfl;replace hz9:zH w8 vz9 (V/q):=hz9;obtain⟨vz10,q10,hz10⟩:=hI.v zAC rfl;obtain⟨vz11,q11,rfl⟩:=hI.v zAJ rfl;obtain⟨vz12,q12,rfl⟩:=hI.v zAo rfl;have hT:=zAH [(55,.slice (some ⟨w.heap.size,0,none⟩) m m),(56,.int .i64 j),(57,.agg #[.bool t1,.slice ta tl tc]),(58,.pointer (some ⟨b,0,none⟩)),(59,.pointer (some ⟨b,0,none⟩)),(60,.pointer (some ⟨b,1,none⟩)),(61,.agg #[.bool ln,.slice la ll lc]),(62,vz7),(54,vz8),(63,vz9),(64,vz10),(65,.int .i64 0),(66,.pointer (some ⟨w.heap.size,j*2,none⟩))]
     (fun j hj=>hI.keep j (by simp only[xgm]at hj ⊢;simp[hj]))
     (by simp only[xgm];simp[q0,q1,q2,q3,q4,q5,q6,q7,q8,q9,q10,q11,q12]) hI.size
    have how8:=hI.onl;clear hI;simp only[List.foldl_cons,List.foldl_nil,xgh,xgi,xgj,ptr]at hT;subst hT;clear q0 q1 q2 q3 q4 q5 q6 q7 q8 q9 q10 q11 q12;have hbw8:=zD4 how8;obtain⟨qn,qa,ql,qc,qx,rfl,hqx⟩:=id hz9;have hw9:=hstw8.trans (zF9 rfl rfl);have hq8:=hrX.below hbw8;have hset:=hq8.set (k:=j) (by rw[zD];exact hlt) hz9;rw[<-hw9,<-HFV.out,zDK]at hset;have hb9:Below w.heap.size w w8f:=by rw[hw9];exact zT (zT (nx hBX hbw8) (xgf _) _ _) (xgf _) _ _
    have hr9:=hset.1;clear hset hw9 hqx hstw8 hz9 hz7 hz8 hz10 hl3 hl4 how8 e1 e2 f1 f2 f3 f4;go_wp2;go_roundw
    case rel=>exact⟨j+1,by omega,by simp,hb9,hr9⟩
    case measure=>simp[intOf];omega
   obtain⟨kx,hkx⟩:∃k,qJ xcv 0=k:=⟨_,rfl⟩;obtain⟨kz,hkz⟩:∃k,qJ zj 0=k:=⟨_,rfl⟩;have HSX:qF (∀(v:Value) (w:World),zH w v xcv->Calls Tryz.prog 160 #[v] w fun e w'=>e= .returned (.int .i64 kx)/\Below w.heap.size w w'):=⟨fun v w hv=>hkx ▸ qU v xcv w hv.weak⟩;have HSZ:qF (∀(v:Value) (w:World),zH w v zj->Calls Tryz.prog 160 #[v] w fun e w'=>e= .returned (.int .i64 kz)/\Below w.heap.size w w'):=⟨fun v w hv=>hkz ▸ qU v zj w hv.weak⟩;have HKX:qF (kx=0↔xcv=0):=⟨by rw[<-hkx];exact zCw⟩;have HKZ:qF (kz=0↔zj=0):=⟨by rw[<-hkz];exact zCw⟩;have HBODY:=xgv @body;clear hkx hkz body;go_wp2_with fail
   refine(HSX.out _ w5 V2.out).mono ?_;rintro e w6 ⟨rfl,hb6⟩;by_cases hx0:xcv=0
   ·have hk:=HKX.out.2 hx0
    subst hk;have T12':jR w6 ca6 V:=⟨_,_,_,_,T12.below hb6,by rw[<-HVE.out,hx0,Int.zero_mul,Int.sub_zero];exact V12.out.ext (lx hb6)⟩;go_wp2;exact HBODY.out w6 (yC.of _ hb6) T12'
   ·have hk:kx≠0:=fun h=>hx0 (HKX.out.1 h)
    have hk':(kx !=0)=true:=by simpa using hk
    have p5:=zI p5 hb6;have p6:=zI p6 hb6;clear hx0;go_wp2_with fail
    refine(HSZ.out _ w6 (V3.out.ext (lx hb6))).mono ?_;rintro e w7 ⟨rfl,hb7⟩;have hb67:=nx hb6 hb7;by_cases hz0:zj=0
    ·have hkz:=HKZ.out.2 hz0
     subst hkz;have T12':jR w7 ca6 V:=⟨_,_,_,_,T12.below hb67,by rw[<-HVE.out,hz0,Int.mul_zero,Int.sub_zero];exact V12.out.ext (lx hb67)⟩;go_wp2;exact HBODY.out w7 (yC.of _ hb67) T12'
    ·have hkz:kz≠0:=fun h=>hz0 (HKZ.out.1 h)
     have hkz':(kz !=0)=true:=by simpa using hkz
     have T12:=T12.below hb67;have V12:=xgv (V12.out.ext (lx hb67));have V2:=xgv (V2.out.ext (lx hb67));have V3:=xgv (V3.out.ext (lx hb67));have p3:=zI p3 hb67;have p4:=zI p4 hb67;have p5:=zI p5 hb7;have p6:=zI p6 hb7;clear hz0;obtain⟨f1,f2,f3,f4⟩:=T12.two;go_wp2;go_upto_region 7 with(fail)
     refine zC 11 rfl (RV w7 _ [E 0 43 (.agg #[.bool t1,.slice ta tl tc]),VSl 1 44 xb m xc,VN 2 45 c,VP 3 46 xb (c*2),E 4 47 (.agg #[.bool s2,.slice a2 l2 k2]),VSl 5 48 zb m zc,VN 6 49 j,VP 7 50 zb (j*2),E 8 51 (.agg #[.bool s3,.slice a3 l3 k3]),EI 9 52 (xcv*zj),EI 10 53 (zcv*xj-xcv*zj)]) kR RV.start (RV.fin kR ?fin3) ?steps3
     case steps3=>
      refine⟨?_,?_,?_,?_,?_,?_,?_,?_,?_,?_,?_,trivial⟩<;>(intro L T wS hL hd hcl hI K hK;try refine zA rfl ?_)
      ·have zt:=hI.k 12 rfl kR
       have cc0:=hI.cell f1;have cc1:=hI.cell f2;exact xgu
      ·exact xgs (hI.k 1 rfl kR)
      ·exact xgs (hI.k 3 rfl kR)
      ·exact xgt (hI.e mm1 (hd 1)) (hI.e mm2 (hd 2))
      ·have zt3:=hI.e mm3 (hd 3)
       have cc0:=hI.cell p3;have cc1:=hI.cell p4;exact xgu
      ·exact xgs (hI.k 2 rfl kR)
      ·exact xgs (hI.k 10 rfl kR)
      ·exact xgt (hI.e mm5 (hd 5)) (hI.e mm6 (hd 6))
      ·have zt7:=hI.e mm7 (hd 7)
       have cc0:=hI.cell p5;have cc1:=hI.cell p6;exact xgu
      ·have zt4:=hI.e mm4 (hd 4)
       have zt8:=hI.e mm8 (hd 8);go_simp;refine(jM _ _ xcv zj _ (V2.out.ext (lx hI.bel)).weak (V3.out.ext (lx hI.bel)).weak HSC.out.1 HS.out.2.1).mono ?_;exact xgo
      ·have zt0:=hI.e mm0 (hd 0)
       obtain⟨v9,zt9,h9⟩:=hI.vi mm9 (hd 9);go_simp;refine(zID _ _ (zcv*xj) (xcv*zj) _ (V12.out.ext (lx hI.bel)).weak h9.weak HS.out.2.2.1 HS.out.2.2.2.1).mono ?_;exact xgo
     intro w8 hbw8 T hT;simp only[Fin,E,EI,VP,VSl,VN,xgg,xgh,xgi,xgj]at hT;obtain⟨vb9,hb9,vb10,hb10,rfl⟩:=hT;simp only[xgl,xgk];obtain⟨u1,ua,ul,uc,rfl⟩:=(show zH _ _ _ from hb10).parts;have T12:=T12.below hbw8;have W1:=xgv (show zH _ _ _ from hb10);rw[HVE.out]at W1;have hb68:=nx hb67 hbw8;clear f1 f2 f3 f4 p3 p4 p5 p6 hb9 hb10;obtain⟨f1,f2,f3,f4⟩:=T12.two;go_wp2;refine HBODY.out _ ((yC.of [ca6] hb68).trans (zD5 (T12.lext2 dE _ _))) (jR.put T12 W1.out)
  ·obtain rfl:j=m:=by omega
   rw[zDh]at hr;go_wp2;go_ret;exact⟨rfl,hr,hB⟩
end Go.Proofs.YtnbmaipobhppcaaGreat
