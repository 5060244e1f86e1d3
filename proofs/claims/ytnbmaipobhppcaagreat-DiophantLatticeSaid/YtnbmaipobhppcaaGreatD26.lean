/- bareiss.Solve. diophant: half, the first fraction of a list. Plain: the determinant and the pivots. Plain: lattices, their Hermite bases, kernels and saturations. Plain: ranks by minors; how large the Hermite bases of kernels and saturations are. Plain: saturations, primitive matrices, complements. kernel.cut, kernel.rank. torsionref05.inside. torsionref05.Pick. Plain: the minors of Laplace's expansion as picked matrices. torsionref13.determinant. -/
import Derived.Test.YtnbmaipobhppcaaGreatD09
import Derived.Test.YtnbmaipobhppcaaGreatD10
import Derived.Test.YtnbmaipobhppcaaGreatD12
import Derived.Test.YtnbmaipobhppcaaGreatD13
import Derived.Test.YtnbmaipobhppcaaGreatD17
import Derived.Test.YtnbmaipobhppcaaGreatD18
import Derived.Test.YtnbmaipobhppcaaGreatD22
import Derived.Test.YtnbmaipobhppcaaGreatD25
set_option linter.unusedVariables false
set_option linter.unusedSimpArgs false
set_option linter.unusedSectionVars false
set_option maxHeartbeats 16000000
set_option maxRecDepth 100000
namespace Go.Proofs.YtnbmaipobhppcaaGreat
open Go.RowKit
theorem zOQ(v:Value)(R C:Nat)(M:List (List Int))(w:World)(h:yP w v R C M)(hF:jK R C M):
  Calls Tryz.prog 68 #[v] w fun e w'=>∃v,e= .returned v/\v= .bool true/\Below w.heap.size w w':=
 (yK v R C M w h).mono fun e w' h=>⟨_,h.1,by rw[decide_eq_true hF.valid],h.2⟩
def zLx(lo n:Nat)(f:Nat->Int × Int):World->Value->Prop:=fun w v=>∃g,v= .slice (some ⟨g,0,none⟩) n n/\lo<=g/\zAQ w g (jZ n f)
theorem zP7(b n:Nat)(dv:Value)(w:World)(hr:qC w b (zM n fun _=>0))(hd:zH w dv 1)(hn:n<=1000000):
  Calls Tryz.prog 231 #[.slice (some ⟨b,0,none⟩) n n,dv] w fun e w'=>∃g,e= .returned (.slice (some ⟨g,0,none⟩) n n)/\w.heap.size<=g/\zAQ w' g (jZ n fun _=>(0,1))/\Below w.heap.size w w':=by
 have h:=zIf (e:=1) b 0 n n (zM n fun _=>0) (fun _=>0) dv 1 w hr (fun k hk=>by rw[Nat.zero_add];exact zO hk) hd dE dE dE (fun k _=>by decide) hn;have e:prQ (Rat.divInt 0 1)=(0,1):=by decide+kernel
 rw[e,Nat.zero_mul]at h;exact h
def QOf(q:Rat):World->Value->Prop:=fun w v=>∃u,v= .tuple #[u,.int .i64 0]/\jW w u q
def zOa(a b:Nat)(T:Array Value)(w:World):World:=
 match T[a]?,T[b]? with
 |some (.pointer (some ⟨g,o,none⟩)),some (.agg #[x,y,z,u])=>(((w.setCell ⟨g,o,none⟩ x).setCell ⟨g,o+1,none⟩ y).setCell ⟨g,o+2,none⟩ z).setCell ⟨g,o+3,none⟩ u
 |_,_=>w
theorem zGA{a b g o:Nat}{T:Array Value}{w:World}{x y z u:Value}(h1:T[a]?=some (.pointer (some ⟨g,o,none⟩)))(h2:T[b]?=some (.agg #[x,y,z,u])):zOa a b T w=(((w.setCell ⟨g,o,none⟩ x).setCell ⟨g,o+1,none⟩ y).setCell ⟨g,o+2,none⟩ z).setCell ⟨g,o+3,none⟩ u:=by
 unfold zOa;rw[h1,h2];rfl
theorem zIj{a b c:Nat}{T:Array Value}{w:World}{v:Value}(h1:c≠a)(h2:c≠b):zOa a b (T.setIfInBounds c v) w=zOa a b T w:=by
 unfold zOa;rw[xgc h1,xgc h2]
theorem zAQ.only{S:List Nat}{w w':World}{b:Nat}{ps:List (Int × Int)}(h:zAQ w b ps)(k:yC S w w')(hb:b ∉ S):zAQ w' b ps:=h.old (k.old b h.lt hb) k.lext
def zO0(R C:Nat)(s:BE)(e:Ending)(w':World):Prop:=
 (∃i yv,s.pv.length<=i/\i<C/\s.E i R≠0/\e= .returned (.tuple #[.slice none 0 0,yv,.bool false])/\zAn w' yv (jZ C fun t=>prQ (Rat.divInt (s.E i (R+1+t)) (s.E i R))))∨
 (∃xv,(∀i,s.pv.length<=i->i<C->s.E i R=0)/\e= .returned (.tuple #[xv,.slice none 0 0,.bool true])/\zAn w' xv (jZ R fun i=>prQ (zEz s R s.pv.length i)))
theorem zE7{e:Nat}(v bv:Value)(R C:Nat)(M:List (List Int))(y:Nat->Int)(w:World)(h:yP w v R C M)(hF:jK R C M)(hb:qT w bv (zM C y))(hR:R<=1000)(hC:C<=1000)(hC1:1<=C)(he:2*e+1<=1000000)
  (hS:∀c,c<=R->(zAg C (eqL R (ent M) y) c).pv.length<=C/\(zAg C (eqL R (ent M) y) c).last≠0/\(zAg C (eqL R (ent M) y) c).last.natAbs<2^e/\∀i,i<C->∀j,j<R+1+C->((zAg C (eqL R (ent M) y) c).E i j).natAbs<2^e)
  (hP:∀k t,(zAg C (eqL R (ent M) y) R).pv[k]?=some t->t<R/\(zAg C (eqL R (ent M) y) R).E k t≠0):
  Calls Tryz.prog 161 #[v,bv] w fun e w'=>zO0 R C (zAg C (eqL R (ent M) y) R) e w'/\Below w.heap.size w w':=by
 obtain⟨A,rfl,hrw⟩:=id h;obtain⟨ao,n,acap,rfl,e2,e3,e4,-⟩:=id hrw;obtain rfl:n=R:=by rw[<-e2,hF.1]
 obtain⟨bo,bn,bc,rfl,f2,f3,f4,-⟩:=id hb;obtain rfl:C=bn:=by rw[<-f2,zD]
 have HM:=xgv h;have HRW:=xgv hrw;have HF:=xgv hF;have HBV:=xgv hb;have HS:=xgv hS;have HP:=xgv hP;obtain⟨L,hL⟩:∃L,eqL n (ent M) y=L:=⟨_,rfl⟩;have HL:=xgv hL;rw[hL]at HS HP ⊢
 have hSn:=HS.out n (xgf _);obtain⟨S,hSe⟩:∃S,zAg C L n=S:=⟨_,rfl⟩;rw[hSe]at HP hSn ⊢
 have HSE:=xgv hSe;have HSN:=xgv hSn;clear hSn hSe;have hmk:=fun W=>mkR (C:Int) C rfl oM W
 have hmi:=fun W=>mkI ((n:Int)+1+(C:Int)) (n+1+C) oM oM W
 obtain⟨m,hm⟩:∃m,n+1+C=m:=⟨_,rfl⟩;rw[hm]at HS hmi;have HMM:=xgv hm;clear h hrw hF hb hS hP e2 f2 hL hm;go_enter Tryz.func161,Tryz.ntmps161;go_upto_region 1 with(fail)
 refine zB ?_;intro W0 hW0;obtain⟨hB0,T2,hs0⟩:=zK hW0;obtain⟨c1,c2,c3,c4,c5,c6⟩:=T2.three;clear hW0;go_wp2_with fail
 refine(zOQ _ n C M W0 (HM.out.below hB0) HF.out).mono ?_;rintro e' w1 ⟨_,rfl,rfl,hb1⟩;have T2:=T2.below hb1;have hB:=nx hB0 hb1;clear c1 c2 c3 c4 c5 c6;obtain⟨c1,c2,c3,c4,c5,c6⟩:=T2.three;go_upto_region 4 with(fail)
 refine zB ?_;intro W2 hW2;have hb2:Below w1.heap.size w1 W2:=by rw[hW2.out];exact(Below.refl _ _).alloc (xgf _) _
 have hH:zIH W2 w1.heap.size 0 C m L:=by
  rw[hW2.out];exact⟨_,Blk.new _ _ _,by simp[madeCells],fun i hi=>by omega⟩
 have q1:=hB.size;have q0:=hB0.size;have lt0:=(T2.lt:w.heap.size<_);have T2:=T2.below hb2;have hB:=nx hB hb2;clear hW2 c1 c2 c3 c4 c5 c6 hb2;obtain⟨bq,hbq⟩:∃g,w1.heap.size=g:=⟨_,rfl⟩;rw[hbq]at hH q1 lt0 ⊢
 clear hbq;go_wp2;go_loopw [33] (fun iv wr=>∃j:Nat,j<=C/\iv= .int .i64 j/\Below w.heap.size w wr/\Blk wr w.heap.size 28 #[.int .i64 n,.int .i64 C,.slice ao n acap]/\zIH wr bq j C m L) (fun iv _=>C-(intOf iv).toNat)
 case atStart=>exact⟨0,by omega,rfl,hB,T2,hH⟩
 case round=>
  clear hB T2 hH;obtain⟨j,hj,rfl,hB,T2,hH⟩:=hrel;obtain⟨c1,c2,c3,c4,c5,c6⟩:=T2.three;by_cases hlt:j<C
  ·have qr:=hB.size
   have ltw:=T2.lt;have lq:=hH.lt;have mm:=HMM.out;go_upto_region 8 with(fail)
   refine zB ?_;intro W3 hW3;have hb3:Below wr.heap.size wr W3:=by rw[hW3.out];exact(Below.refl _ _).alloc (xgf _) _
   have hr:qC W3 wr.heap.size (zM m (qA (fun i=>ent M i j) (fun _=>0) 0)):=by
    rw[zCM,hW3.out];obtain⟨_,h1,-,h2⟩:=zCP (w:=wr) (lo:=0) (n:=m) (Nat.zero_le _);injection h1 with h1
    injection h1 with h1
    injection h1 with h1
    rw[h1];exact h2
   have T2:=T2.below hb3;have hB:=nx hB hb3;have q3:=hb3.size;clear hW3 c1 c2 c3 c4 c5 c6;have HB3:=xgv hb3;obtain⟨lb,hlb⟩:∃g,wr.heap.size=g:=⟨_,rfl⟩;have HLB:=xgv hlb;rw[hlb]at hr qr lq ltw ⊢
   clear hlb hb3;obtain⟨c1,c2,c3,c4,c5,c6⟩:=T2.three;go_wp2;clear c1 c2 c3 c4 c5 c6;go_loopw [46] (fun iv wt=>∃i:Nat,i<=n/\iv= .int .i64 i/\yC [lb] W3 wt/\qC wt lb (zM m (qA (fun i=>ent M i j) (fun _=>0) i))) (fun iv _=>n-(intOf iv).toNat)
   case atStart=>exact⟨0,by omega,rfl,yC.refl _ _,hr⟩
   case round=>
    rename World=>ws
    clear hr;obtain⟨i,hi,rfl,ho,hr⟩:=hrel;have hBt:Below w.heap.size w ws:=Below.only hB ho (xgf _) (fun g hg=>by simp at hg;omega);have T2:=T2.only ho (by simp;omega);obtain⟨c1,c2,c3,c4,c5,c6⟩:=T2.three;have ltb:=hr.lt;by_cases hin:i<n
    ·obtain⟨rb,ra,rn,rc,zs,e1,hbl,hz,p1,hv⟩:=HRW.out.row (k:=i) (by rw[HF.out.1];exact hin)
     obtain rfl:=HF.out.row_eq hz;have hrl:=hv.len.1;obtain rfl:rn=C:=by rw[<-hrl];exact HF.out.2 _ (xgd hz)
     obtain⟨eb,z,s1,a1,l1,k1,rfl,heb,hze,z1,z2,hzv⟩:=hv.cell (k:=j) (by rw[HF.out.2 _ (xgd hz)];exact hlt);have hent:=zAU hz hze;have p1:=zI p1 hBt;have z1:=zI z1 hBt;have z2:=zI z2 hBt;have HZV:=xgv (hzv.ext (lx hBt));obtain⟨_,_,_,_,o1,o2,o3,o4,-⟩:=hr.cell (k:=i) (zO (by have:=HMM.out;omega));have hset:=hr.set (k:=i) (by rw[zD];have:=HMM.out;omega) HZV.out;rw[<-hent,zDK (fun i=>ent M i j)]at hset;have HSET:=xgv hset;subst e1;clear hv hz hze hzv hent hset hrl;go_wp2;go_roundw
     case rel=>exact⟨i+1,by omega,by simp,ho.trans (zD5 HSET.out.2),HSET.out.1⟩
     case measure=>simp[intOf];omega
    ·obtain rfl:i=n:=by omega
     have mm:=HMM.out;obtain⟨yb,z,s1,a1,l1,k1,rfl,hyb,hze,y1,y2,hzv⟩:=HBV.out.cell (k:=j) (by rw[zD];exact hlt);rw[zO hlt]at hze;injection hze with hze
     subst hze;have y1:=zI y1 hBt;have y2:=zI y2 hBt;have HZV:=xgv (hzv.ext (lx hBt));have lt2:=T2.lt;have lt5:=hBt.size;clear hzv;go_upto_region 13 with(fail)
     refine zC 7 rfl (RV ws _ [VSl 0 59 lb m m,VP 1 60 w.heap.size 0,VN 2 61 i,VSl 3 62 yb C bc,VN 4 63 j,VP 5 64 yb (j*2),E 6 65 (.agg #[.bool s1,.slice a1 l1 k1])]) kR RV.start (RV.fin kR ?fin1) ?steps1
     case steps1=>
      refine⟨?_,?_,?_,?_,?_,?_,?_,trivial⟩<;>(intro L T wS hL hd hcl hI K hK;try refine zA rfl ?_)
      ·exact xgs (hI.k 9 rfl kR)
      ·exact xgs (hI.k 2 rfl kR)
      ·have zt1:=hI.e mm1 (hd 1)
       have cc0:=hI.cell c1;exact xgu
      ·exact xgs (hI.k 1 rfl kR)
      ·exact xgs (hI.k 8 rfl kR)
      ·exact xgt (hI.e mm3 (hd 3)) (hI.e mm4 (hd 4))
      ·have zt5:=hI.e mm5 (hd 5)
       have cc0:=hI.cell y1;have cc1:=hI.cell y2;exact xgu
     intro wx hbwx T hT;simp only[Fin,E,EI,VP,VSl,VN,xgg,xgh,xgi,xgj]at hT;subst hT;simp only[xgl,xgk];have hr:=hr.below hbwx;have T2:=T2.below hbwx;have ho:=ho.trans (yC.of [lb] hbwx);have hzx:=HZV.out.ext (lx hbwx);obtain⟨_,_,_,_,o1,o2,o3,o4,-⟩:=hr.cell (k:=i) (zO oM);have hset:=hr.set (k:=i) (by rw[zD];omega) hzx;have qx:=hbwx.size;have ho:=ho.trans (zD5 hset.2);have T2:Blk ((wx.setCell ⟨lb,i*2,none⟩ (.bool s1)).setCell ⟨lb,i*2+1,none⟩ (.slice a1 l1 k1)) w.heap.size 28 #[.int .i64 i,.int .i64 C,.slice ao i acap]:=(zR wx lb (i*2) (i*2+1) w.heap.size _ _ oM).trans T2;have hr:=hset.1;clear hset c1 c2 c3 c4 c5 c6 y1 y2 hzx;go_upto_region 14 with(fail)
     generalize (wx.setCell ⟨lb,i*2,none⟩ (.bool s1)).setCell ⟨lb,i*2+1,none⟩ (.slice a1 l1 k1)=W5 at ho hr T2 ⊢
     obtain⟨c1,c2,c3,c4,c5,c6⟩:=T2.three;have lt6:=T2.lt;have hw1:IntKind.i64.wrap ((i:Int)+1)=(i:Int)+1:=IntWalk.i64_in _ oM;have hw2:IntKind.i64.wrap ((i:Int)+1+(j:Int))=(i:Int)+1+(j:Int):=IntWalk.i64_in _ oM;refine zC 7 rfl (RV W5 _ [VSl 0 67 lb m m,VP 1 68 w.heap.size 0,VN 2 69 i,E 3 70 (.int .i64 (i+1)),VN 4 71 j,E 5 72 (.int .i64 (i+1+j)),EI 6 73 (1)]) kR RV.start (RV.fin kR ?fin2) ?steps2
     case steps2=>
      refine⟨?_,?_,?_,?_,?_,?_,?_,trivial⟩<;>(intro L T wS hL hd hcl hI K hK;try refine zA rfl ?_)
      ·exact xgs (hI.k 9 rfl kR)
      ·exact xgs (hI.k 2 rfl kR)
      ·have zt1:=hI.e mm1 (hd 1)
       have cc0:=hI.cell c1;exact xgu
      ·exact xgs (hI.e mm2 (hd 2))
      ·exact xgs (hI.k 8 rfl kR)
      ·exact xgt (hI.e mm3 (hd 3)) (hI.e mm4 (hd 4))
      ·go_simp
       refine(zBF 1 _ dE dE).mono ?_;exact xgo
     intro wz hbwz T hT;simp only[Fin,E,EI,VP,VSl,VN,xgg,xgh,xgi,xgj]at hT;obtain⟨vb6,hb6,rfl⟩:=hT;simp only[xgl,xgk];obtain⟨us,ua,ul,uc,rfl⟩:=(show zH _ _ _ from hb6).parts;have hr:=hr.below hbwz;have T2:=T2.below hbwz;have ho:=ho.trans (yC.of [lb] hbwz);have qz:=hbwz.size;obtain⟨zz,hzz⟩:∃z,((zM m (qA (fun i=>ent M i j) (fun _=>0) i)).set i (y j))[i+1+j]?=some z:=⟨_,xga (by rw[List.length_set,zD];omega)⟩;obtain⟨_,_,_,_,o1,o2,o3,o4,-⟩:=hr.cell (k:=i+1+j) hzz;have hset:=hr.set (k:=i+1+j) (by rw[List.length_set,zD];omega) (show zH _ _ _ from hb6);have ho:=ho.trans (zD5 hset.2);have T2:Blk ((wz.setCell ⟨lb,(i+1+j)*2,none⟩ (.bool us)).setCell ⟨lb,(i+1+j)*2+1,none⟩ (.slice ua ul uc)) w.heap.size 28 #[.int .i64 i,.int .i64 C,.slice ao i acap]:=(zR wz lb ((i+1+j)*2) ((i+1+j)*2+1) w.heap.size _ _ oM).trans T2;have hr:=hset.1;have hrl:=hr;rw[<-HMM.out,zMe hlt,HL.out,HMM.out]at hr;clear hset c1 c2 c3 c4 c5 c6 hb6 hrl;go_upto_region 15 with(fail)
     refine zB ?_;intro W6 hW6;rw[<-hW6.out]at ho hr T2;clear hW6;have hlb:=HLB.out;have hH6:=hH.below (Below.only HB3.out ho (xgf _) (fun g hg=>by simp at hg;omega));have hB6:Below w.heap.size w W6:=Below.only hB ho (xgf _) (fun g hg=>by simp at hg;omega);obtain⟨⟨u,b1⟩,b2⟩:=hH6.facts hlt;have hvl:=hr.vec (zD _ _) (xgf _) (by omega:m<=9223372036854775807);have hput:=hH6.put hlt hvl;have HPUT:=xgv hput;have q6:=hB6.size;clear hvl hput hr;go_wp2;go_roundw
     case rel=>exact⟨j+1,by omega,by simp,zT hB6 oM _ _,(zV W6 bq j w.heap.size _ oM).trans T2,HPUT.out.1⟩
     case measure=>simp[intOf];omega
  ·obtain rfl:C=j:=by omega
   have hmn:n<=m:=by have:=HMM.out;omega
   have lt3:=T2.lt;have qq:=hB.size;go_wp2_with fail
   refine(zL1 (e:=e) bq C m C n L wr hH.full (xgf _) oM oM hC1 (by have:=HMM.out;omega) hmn he HS.out).mono ?_;rintro e' w4 ⟨be,rfl,hbe,hb4⟩;have T2:=T2.below hb4;have hB:=nx hB hb4;rw[HSE.out]at hbe;obtain⟨bh,cap,ln,la,ll,lc,pv,h1,h2,h3,h4,h5,h6,h7,h8,h9⟩:=hbe.ex;obtain⟨po,pcap,rfl,p1,p2,p3⟩:=h9.at_;have HH:=xgv h7;have HNA:=xgv p3;have d1:=h1.cell 0;have d5:=h1.cell 4;obtain⟨k,hk⟩:∃k,S.pv.length=k:=⟨_,rfl⟩;have HK:=xgv hk;rw[hk]at d5 p1 h1;have HB1:=xgv h1;have hkC:k<=C:=by have:=HSN.out.1;omega
   clear hbe h1 h7 h8 h9 p3 hk hH c1 c2 c3 c4 c5 c6;obtain⟨c1,c2,c3,c4,c5,c6⟩:=T2.three;go_upto_region 18 with(fail)
   refine zE rfl (RV w4 _ [VP 0 84 be 0,VP 1 85 be 0,VP 2 86 be 0,VP 3 87 be 0,VSl 4 88 bh C cap,VP 5 89 be 0,VP 6 90 be 0,VP 7 91 be 4,E 8 92 (.slice po k pcap),VN 9 93 k,E 10 94 (.slice (if cap=k then some ⟨bh,0,none⟩else some ⟨bh,k,none⟩) (C-k) (cap-k)),E 11 95 (.int .i64 ((C-k:Nat):Int)),VN 12 96 0]) kR RV.start (RV.fin kR ?fin3) ?steps3
   case steps3=>
    refine⟨?_,?_,?_,?_,?_,?_,?_,?_,?_,?_,?_,?_,?_,trivial⟩<;>(intro L T wS hL hd hcl hI K hK;try refine zA rfl ?_)
    ·exact xgs (hI.k 12 rfl kR)
    ·exact xgs (hI.e mm0 (hd 0))
    ·exact xgs (hI.e mm1 (hd 1))
    ·exact xgs (hI.e mm2 (hd 2))
    ·have zt3:=hI.e mm3 (hd 3)
     have cc0:=hI.cell d1;exact xgu
    ·exact xgs (hI.k 12 rfl kR)
    ·exact xgs (hI.e mm5 (hd 5))
    ·exact xgs (hI.e mm6 (hd 6))
    ·have zt7:=hI.e mm7 (hd 7)
     have cc0:=hI.cell d5;exact xgu
    ·exact xgs (hI.e mm8 (hd 8))
    ·exact xgt (hI.e mm4 (hd 4)) (hI.e mm9 (hd 9))
    ·exact xgs (hI.e zAC (hd 10))
    ·go_simp
     exact hK _ _ (hI.q zAo)
   intro w5 hbw5 T hT;simp only[Fin,E,EI,VP,VSl,VN,xgg,xgh,xgi,xgj]at hT;subst hT;have hB:=nx hB hbw5;have T2:=T2.below hbw5;have HH:=xgv (HH.out.below hbw5);have HB1:=xgv (HB1.out.below hbw5);have HNA:=xgv (HNA.out.below hbw5);clear c1 c2 c3 c4 c5 c6 d1 d5;obtain⟨sa,hsa⟩:∃sa:Option Addr,(if cap=k then some ⟨bh,0,none⟩else some ⟨bh,k,none⟩)=sa:=⟨_,rfl⟩;have HSA:qF (k<C->sa=some ⟨bh,k,none⟩):=⟨fun h=>by rw[<-hsa,if_neg oM]⟩;rw[hsa];clear hsa;go_wp2;go_loopw [96] (fun iv wr=>∃i:Nat,i<=C-k/\iv= .int .i64 i/\Below w5.heap.size w5 wr/\qF (∀a,k<=a->a<k+i->S.E a n=0)) (fun iv _=>(C-k)-(intOf iv).toNat)
   case atStart=>exact⟨0,by omega,rfl,Below.refl _ _,⟨fun a h1 h2=>by omega⟩⟩
   case round=>
    rename World=>ws
    obtain⟨i,hi,rfl,hb,hz⟩:=hrel;have T2:=T2.below hb;obtain⟨c1,c2,c3,c4,c5,c6⟩:=T2.three;by_cases hin:i<C-k
    ·have hck:¬ cap=k:=by omega
     have hnm:n<m:=by have:=HMM.out;omega
     obtain⟨ro,rc,p3,p4,hvr⟩:=(HH.out.below hb).row (i:=k+i) oM;obtain⟨rb,z,s1,a1,l1,k1,rfl,zl,hze,z1,z2,hzv⟩:=hvr.cell (k:=n) (by rw[zD];have:=HMM.out;omega);rw[zO (by have:=HMM.out;omega)]at hze;injection hze with hze
     obtain⟨kz,hkz⟩:∃k,qJ z 0=k:=⟨_,rfl⟩;have HSG:qF (∀(v:Value) (w:World),zH w v z->Calls Tryz.prog 160 #[v] w fun e w'=>e= .returned (.int .i64 kz)/\Below w.heap.size w w'):=⟨fun v w hv=>hkz ▸ qU v z w hv.weak⟩;have HKZ:qF (kz=0↔z=0):=⟨by rw[<-hkz];exact zCw⟩;have HZE:=xgv hze;have HZV:=xgv hzv;have HVR:=xgv hvr;clear hze hzv hkz hvr;obtain rfl:=HSA.out oM;go_wp2_with fail
     refine(HSG.out _ ws HZV.out).mono ?_;rintro e' w6 ⟨rfl,hb6⟩;by_cases hz0:z=0
     ·have hk0:=HKZ.out.2 hz0
      subst hk0;have hzz:qF (∀a,k<=a->a<k+(i+1)->S.E a n=0):=⟨fun a g1 g2=>by
       rcases Nat.lt_or_ge a (k+i)with h|h
       ·exact hz.out a g1 h
       ·obtain rfl:a=k+i:=by omega
        exact HZE.out.trans hz0⟩
      clear hz0 HKZ;go_wp2;go_roundw
      case rel=>exact⟨i+1,by omega,by simp,nx hb hb6,hzz⟩
      case measure=>simp[intOf];omega
     ·have hk0:kz≠0:=fun h=>hz0 (HKZ.out.1 h)
      have hk0':(kz !=0)=true:=by simpa using hk0
      have hvl:=HVR.out.len;rw[zD]at hvl;have mm:=HMM.out;have T2:=T2.below hb6;have z1:=zI z1 hb6;have z2:=zI z2 hb6;have HZ6:=xgv (HZV.out.ext (lx hb6));have HRA:qF (qC w6 rb (zM m (S.E (k+i)))):=⟨by
       obtain⟨_,_,_,g1,-,-,-,g5⟩:=HVR.out.below hb6;injection g1 with g1
       obtain⟨b',g6,g7⟩:=g5 (fun h=>by have:=congrArg List.length h;rw[zD]at this;simp at this;omega);rw[<-g1]at g6;injection g6 with g6
       injection g6 with g6
       rw[g6];exact g7⟩
      have HOV:qF (∀W,Below w6.heap.size w6 W->Calls Tryz.prog 231 #[.slice (some ⟨rb,(n+1)*2,none⟩) (m-(n+1)) (rc-(n+1)),.agg #[.bool s1,.slice a1 l1 k1]] W fun e w'=>∃v,e= .returned v/\zAn w' v (jZ C fun t=>prQ (Rat.divInt (S.E (k+i) (n+1+t)) (S.E (k+i) n)))/\Below W.heap.size W w'):=⟨fun W hW=>by
       rw[HZE.out,show m-(n+1)=C by omega];refine(zIf (e:=e) rb (n+1) C (rc-(n+1)) _ (fun t=>S.E (k+i) (n+1+t)) _ z W (HRA.out.below hW) (fun t ht=>zO oM) (HZ6.out.ext (lx hW)) hz0 oM (by rw[<-HZE.out];exact HSN.out.2.2.2 (k+i) oM n oM) (fun t ht=>HSN.out.2.2.2 (k+i) oM _ oM) oM).mono ?_;rintro e' w' ⟨g,rfl,-,hp,hb⟩;exact⟨_,rfl,hp.prs (qG _ _) (xgf _) oM,hb⟩⟩
      have hw1:IntKind.i64.wrap ((n:Int)+1)=(n:Int)+1:=IntWalk.i64_in _ oM;have hrc:¬ rc=n+1:=by omega
      have hg1:(0:Int)<=(n:Int)+1:=by omega
      have hg2:(n:Int)+1<=(m:Int):=by omega
      have hl1:qS (fun w v=>zAn w v (jZ C fun t=>prQ (Rat.divInt (S.E (k+i) (n+1+t)) (S.E (k+i) n)))):=fun _ _ _ x h=>h.below x
      have hbz:=HZE.out;clear c1 c2 c3 c4 c5 c6 HZE;obtain⟨c1,c2,c3,c4,c5,c6⟩:=T2.three;go_upto_region 22 with(fail)
      refine zE rfl (RV w6 _ [VSl 0 107 rb m rc,VP 1 108 w.heap.size 0,VN 2 109 n,E 3 110 (.int .i64 (n+1)),E 4 111 (.slice (some ⟨rb,(n+1)*2,none⟩) (m-(n+1)) (rc-(n+1))),VSl 5 112 rb m rc,VP 6 113 w.heap.size 0,VN 7 114 n,VP 8 115 rb (n*2),E 9 116 (.agg #[.bool s1,.slice a1 l1 k1]),⟨10,117,fun w v=>zAn w v (jZ C fun t=>prQ (Rat.divInt (S.E (k+i) (n+1+t)) (S.E (k+i) n)))⟩,E 11 4 (.slice none 0 0),⟨12,5,fun w v=>zAn w v (jZ C fun t=>prQ (Rat.divInt (S.E (k+i) (n+1+t)) (S.E (k+i) n)))⟩,E 13 6 (.bool false)]) kR RV.start (RV.fin kR ?fin4) ?steps4
      case steps4=>
       refine⟨?_,?_,?_,?_,?_,?_,?_,?_,?_,?_,?_,?_,?_,?_,trivial⟩<;>(intro L T wS hL hd hcl hI K hK;try refine zA rfl ?_)
       ·exact xgs (hI.k 14 rfl kR)
       ·exact xgs (hI.k 2 rfl kR)
       ·have zt1:=hI.e mm1 (hd 1)
        have cc0:=hI.cell c1;exact xgu
       ·exact xgs (hI.e mm2 (hd 2))
       ·exact xgt (hI.e mm0 (hd 0)) (hI.e mm3 (hd 3))
       ·exact xgs (hI.k 14 rfl kR)
       ·exact xgs (hI.k 2 rfl kR)
       ·have zt6:=hI.e mm6 (hd 6)
        have cc0:=hI.cell c1;exact xgu
       ·exact xgt (hI.e mm5 (hd 5)) (hI.e mm7 (hd 7))
       ·have zt8:=hI.e mm8 (hd 8)
        have cc0:=hI.cell z1;have cc1:=hI.cell z2;exact xgu
       ·have zt4:=hI.e mm4 (hd 4)
        have zt9:=hI.e mm9 (hd 9);go_simp;refine(HOV.out _ hI.bel).mono ?_;rintro e wa ⟨v,rfl,hv,hba⟩;exact hK _ _ ((hI.world hba).y zAC hv)
       ·go_simp
        exact hK _ _ (hI.q zAJ)
       ·obtain⟨v10,zt10,h10⟩:=hI.v zAC (hd 10)
        go_simp;exact hK _ _ (hI.y zAo h10)
       ·go_simp
        exact hK _ _ (hI.q zCF)
      intro w7 hbw7 T hT;simp only[Fin,E,EI,VP,VSl,VN,xgg,xgh,xgi,xgj]at hT;obtain⟨vr10,hr10,vr12,hr12,rfl⟩:=hT;go_wp2;refine bodyPost_ret (zCo rfl _ _ _) rfl ?_;refine⟨.inl ⟨k+i,vr12,by rw[HK.out];omega,by omega,by rw[hbz];exact hz0,rfl,hr12⟩,nx hB (nx (nx hb hb6) hbw7)⟩
    ·obtain rfl:i=C-k:=by omega
     have hzz:qF (∀a,S.pv.length<=a->a<C->S.E a n=0):=⟨fun a h1 h2=>hz.out a (by rw[<-HK.out];exact h1) oM⟩;have hB:=nx hB hb;have HH:=xgv (HH.out.below hb);have HB1:=xgv (HB1.out.below hb);have HNA:=xgv (HNA.out.below hb);clear hz HSA;have hmz:=fun W=>mkI (n:Int) n rfl oM W
     have hl1:=zCi ws.heap.size n;have hl2:qS (zLx ws.heap.size n fun _=>(0,1)):=fun _ _ _ x ⟨g,h1,h2,h3⟩=>⟨g,h1,h2,h3.below x⟩
     have lt7:=T2.lt;go_upto_region 24 with(fail)
     refine zE rfl (RV ws _ [VP 0 119 w.heap.size 0,VN 1 120 n,⟨2,121,zL0 ws.heap.size n⟩,EI 3 122 (1),⟨4,123,zLx ws.heap.size n fun _=>(0,1)⟩,⟨5,15,zLx ws.heap.size n fun _=>(0,1)⟩]) kR RV.start (RV.fin kR ?fin5) ?steps5
     case steps5=>
      refine⟨?_,?_,?_,?_,?_,?_,trivial⟩<;>(intro L T wS hL hd hcl hI K hK;try refine zA rfl ?_)
      ·exact xgs (hI.k 2 rfl kR)
      ·have zt0:=hI.e mm0 (hd 0)
       have cc0:=hI.cell c1;exact xgu
      ·obtain⟨_,zt1,rfl⟩:=hI.v mm1 (hd 1)
       go_simp;exact hK _ _ ((hI.world ((Below.refl _ _).alloc (xgf _) _)).y mm2 (zCP hI.bel.size))
      ·go_simp
       refine(zBF 1 _ dE dE).mono ?_;exact xgo
      ·obtain⟨v2,zt2,hv2⟩:=hI.v mm2 (hd 2)
       obtain⟨v3,zt3,hv3⟩:=hI.v mm3 (hd 3);obtain⟨zb,rfl,-,hzr⟩:=hv2;go_simp;refine(zP7 zb n v3 wS hzr hv3 oM).mono ?_;rintro e' wa ⟨g,rfl,hg,hp,hba⟩;exact hK _ _ ((hI.world hba).y mm4 ⟨g,rfl,Nat.le_trans hI.bel.size hg,hp⟩)
      ·obtain⟨v4,zt4,h4⟩:=hI.v mm4 (hd 4)
       go_simp;exact hK _ _ (hI.y mm5 h4)
     intro w8 hbw8 T hT;simp only[Fin,E,EI,VP,VSl,VN,xgg,xgh,xgi,xgj]at hT;obtain⟨vx2,hx2,vx3,hx3,vx4,hx4,vx5,hx5,rfl⟩:=hT;obtain⟨g,rfl,hg,hp⟩:=(show zLx _ _ _ _ _ from hx5);have hp0:zAQ w8 g (jZ n fun t=>prQ (zEz S n 0 t)):=hp;have d5:=(HB1.out.below hbw8).cell 4;clear hp hx2 hx3 hx4 hx5 c1 c2 c3 c4 c5 c6;go_wp2;clear d5;go_loopw [129] (fun iv wr=>∃i:Nat,i<=k/\iv= .int .i64 i/\yC [g] w8 wr/\zAQ wr g (jZ n fun t=>prQ (zEz S n i t))) (fun iv _=>k-(intOf iv).toNat)
     case atStart=>exact⟨0,by omega,rfl,yC.refl _ _,hp0⟩
     case round=>
      rename World=>wu
      clear hp0;obtain⟨i,hi,rfl,ho,hp⟩:=hrel;have hbu:Below ws.heap.size ws wu:=Below.only hbw8 ho (xgf _) (fun g' hg'=>by simp at hg';omega);have T2:=T2.below hbu;by_cases hik:i<k
      ·obtain⟨t,ht⟩:∃t,S.pv[i]?=some t:=⟨_,xga (by rw[HK.out];exact hik)⟩
       obtain⟨htn,htz⟩:=HP.out i t ht;obtain⟨pb,poff,pcs,rfl,n1,n2⟩:=(HNA.out.below hbu).2 (by intro e;rw[e]at ht;simp at ht);have pc:wu.cell? ⟨pb,poff+i,none⟩=some (.int .i64 t):=(cell_of_row wu pb (poff+i) pcs tNn _ n1).trans (n2 i t ht);obtain⟨ro,rc,q1,q2,hvr⟩:=(HH.out.below hbu).row (i:=i) oM;have nm:n<m:=by have:=HMM.out;omega
       obtain⟨rb,z,s1,a1,l1,k1,rfl,zl,hze,x1,x2,hzv⟩:=hvr.cell (k:=n) (by rw[zD];exact nm);obtain⟨rb',u,s2,a2,l2,k2,e2,-,hue,y1,y2,huv⟩:=hvr.cell (k:=t) (by rw[zD];omega);injection e2 with e2
       injection e2 with e2
       subst e2;rw[zO nm]at hze;rw[zO oM]at hue;injection hze with hze
       injection hue with hue
       subst hze hue;have ZV:=xgv hzv;have UV:=xgv huv;obtain⟨Q,hQ⟩:∃Q:Rat,Rat.divInt (S.E i n) (S.E i t)=Q:=⟨_,rfl⟩;have HOF:qF (∀(v1 v2:Value) (w:World),zH w v1 (S.E i n)->zH w v2 (S.E i t)->Calls Tryz.prog 232 #[v1,v2] w fun e w'=>∃v,e= .returned v/\QOf Q w' v/\Below w.heap.size w w'):=⟨fun v1 v2 w k1 k2=>by
        rw[<-hQ];refine(zLK v1 v2 _ _ w k1 k2 (qL (HSN.out.2.2.2 i oM n oM) oM) (qL (HSN.out.2.2.2 i oM t oM) oM) htz).mono ?_;rintro e' w' ⟨v,rfl,h1,h2⟩;exact⟨_,rfl,⟨v,rfl,h1⟩,h2⟩⟩
       have HQE:qF (∀a,prQ (zEz S n (i+1) a)=if a=t then prQ Q else prQ (zEz S n i a)):=⟨fun a=>by
        show prQ (if S.pv[i]?=some a then(S.E i n:Rat)/S.E i a else zEz S n i a)=_;rw[ht];by_cases e:a=t
        ·subst e
         rw[if_pos rfl,if_pos rfl,<-hQ,Rat.divInt_eq_div]
        ·rw[if_neg (fun h=>e (by injection h with h;exact h.symm)),if_neg e]⟩
       have d1:=(HB1.out.below hbu).cell 0;have lt8:=T2.lt;have ltg:=hp.lt;have ltb:=(HB1.out.below hbu).lt;have lth:=(HH.out.below hbu).lt;have hiC:i<C:=by omega
       have htm:t<m:=by omega
       have hl3:qS (QOf Q):=fun _ _ _ x ⟨v,h1,h2⟩=>⟨v,h1,h2.below x⟩
       have hl4:qS (fun _ _=>True):=fun _ _ _ _ _=>trivial
       have hl5:=yD Q;obtain⟨c1,c2,c3,c4,c5,c6⟩:=T2.three;clear hzv huv hvr hQ ht htz n1 n2;go_upto_region 28 with(fail)
       refine zE rfl (RAS ([]) 99 wu _ [⟨0,135,fun _ v=>v= .slice (some ⟨g,0,none⟩) n n⟩,⟨1,136,fun _ v=>v= .int .i64 t⟩,⟨2,137,fun _ v=>v= .pointer (some ⟨be,0,none⟩)⟩,⟨3,138,fun _ v=>v= .pointer (some ⟨be,0,none⟩)⟩,⟨4,139,fun _ v=>v= .pointer (some ⟨be,0,none⟩)⟩,⟨5,140,fun _ v=>v= .pointer (some ⟨be,0,none⟩)⟩,⟨6,141,fun _ v=>v= .slice (some ⟨bh,0,none⟩) C cap⟩,⟨7,142,fun _ v=>v= .int .i64 i⟩,⟨8,143,fun _ v=>v= .pointer (some ⟨bh,i,none⟩)⟩,⟨9,144,fun _ v=>v= .slice (some ⟨rb,0,none⟩) m rc⟩,⟨10,145,fun _ v=>v= .pointer (some ⟨w.heap.size,0,none⟩)⟩,⟨11,146,fun _ v=>v= .int .i64 n⟩,⟨12,147,fun _ v=>v= .pointer (some ⟨rb,n*2,none⟩)⟩,⟨13,148,fun _ v=>v= .agg #[.bool s1,.slice a1 l1 k1]⟩,⟨14,149,fun _ v=>v= .pointer (some ⟨be,0,none⟩)⟩,⟨15,150,fun _ v=>v= .pointer (some ⟨be,0,none⟩)⟩,⟨16,151,fun _ v=>v= .pointer (some ⟨be,0,none⟩)⟩,⟨17,152,fun _ v=>v= .pointer (some ⟨be,0,none⟩)⟩,⟨18,153,fun _ v=>v= .slice (some ⟨bh,0,none⟩) C cap⟩,⟨19,154,fun _ v=>v= .int .i64 i⟩,⟨20,155,fun _ v=>v= .pointer (some ⟨bh,i,none⟩)⟩,⟨21,156,fun _ v=>v= .slice (some ⟨rb,0,none⟩) m rc⟩,⟨22,157,fun _ v=>v= .int .i64 t⟩,⟨23,158,fun _ v=>v= .pointer (some ⟨rb,t*2,none⟩)⟩,⟨24,159,fun _ v=>v= .agg #[.bool s2,.slice a2 l2 k2]⟩,⟨25,160,QOf Q⟩,⟨26,134,QOf Q⟩,⟨27,161,fun w v=>jW w v Q⟩,⟨28,162,fun _ v=>v= .int .i64 0⟩,⟨29,163,fun _ v=>v= .pointer (some ⟨g,t*4,none⟩)⟩] 30 (zOa 163 161)) kR (RAS.start (RA.start kR (by repeat' (first|exact yJ _|exact jD _|exact yR _ _ _|exact qW _|assumption|refine xgm.2 ⟨?_,?_⟩|exact xgn _)))) ?fin6 ?steps6
       case steps6=>
        refine⟨?_,?_,?_,?_,?_,?_,?_,?_,?_,?_,?_,?_,?_,?_,?_,?_,?_,?_,?_,?_,?_,?_,?_,?_,?_,?_,?_,?_,?_,?_,?_,trivial⟩
        ·refine zF.liftA kR dE ?_
         intro L T wS hL hd hcl hI K hK;try refine zA rfl ?_
         have zt:T[15]?=some (.slice (some ⟨g,0,none⟩) n n):=hI.keep 15 sI;go_simp;exact hK _ _ (hI.y mm0 rfl)
        ·refine zF.liftA kR dE ?_
         intro L T wS hL hd hcl hI K hK;try refine zA rfl ?_
         have zt:T[17]?=some (.int .i64 t):=hI.keep 17 sI;go_simp;exact hK _ _ (hI.y mm1 rfl)
        ·refine zF.liftA kR dE ?_
         intro L T wS hL hd hcl hI K hK;try refine zA rfl ?_
         have zt:T[12]?=some (.pointer (some ⟨be,0,none⟩)):=hI.keep 12 sI;go_simp;exact hK _ _ (hI.y mm2 rfl)
        ·refine zF.liftA kR dE ?_
         intro L T wS hL hd hcl hI K hK;try refine zA rfl ?_
         obtain⟨_,zt2,rfl⟩:=hI.v mm2 (hd 2);go_simp;exact hK _ _ (hI.y mm3 rfl)
        ·refine zF.liftA kR dE ?_
         intro L T wS hL hd hcl hI K hK;try refine zA rfl ?_
         obtain⟨_,zt3,rfl⟩:=hI.v mm3 (hd 3);go_simp;exact hK _ _ (hI.y mm4 rfl)
        ·refine zF.liftA kR dE ?_
         intro L T wS hL hd hcl hI K hK;try refine zA rfl ?_
         obtain⟨_,zt4,rfl⟩:=hI.v mm4 (hd 4);go_simp;exact hK _ _ (hI.y mm5 rfl)
        ·refine zF.liftA kR dE ?_
         intro L T wS hL hd hcl hI K hK;try refine zA rfl ?_
         obtain⟨_,zt5,rfl⟩:=hI.v mm5 (hd 5);have cc0:=hI.cell (sI) oM d1;go_simp;exact hK _ _ (hI.y mm6 rfl)
        ·refine zF.liftA kR dE ?_
         intro L T wS hL hd hcl hI K hK;try refine zA rfl ?_
         have zt:T[16]?=some (.int .i64 i):=hI.keep 16 sI;go_simp;exact hK _ _ (hI.y mm7 rfl)
        ·refine zF.liftA kR dE ?_
         intro L T wS hL hd hcl hI K hK;try refine zA rfl ?_
         obtain⟨_,zt6,rfl⟩:=hI.v mm6 (hd 6);obtain⟨_,zt7,rfl⟩:=hI.v mm7 (hd 7);go_simp;exact hK _ _ (hI.y mm8 rfl)
        ·refine zF.liftA kR dE ?_
         intro L T wS hL hd hcl hI K hK;try refine zA rfl ?_
         obtain⟨_,zt8,rfl⟩:=hI.v mm8 (hd 8);have cc0:=hI.cell (sI) oM q1;go_simp;exact hK _ _ (hI.y mm9 rfl)
        ·refine zF.liftA kR dE ?_
         intro L T wS hL hd hcl hI K hK;try refine zA rfl ?_
         have zt:T[2]?=some (.pointer (some ⟨w.heap.size,0,none⟩)):=hI.keep 2 sI;go_simp;exact hK _ _ (hI.y zAC rfl)
        ·refine zF.liftA kR dE ?_
         intro L T wS hL hd hcl hI K hK;try refine zA rfl ?_
         obtain⟨_,zt10,rfl⟩:=hI.v zAC (hd 10);have cc0:=hI.cell (sI) oM c1;go_simp;exact hK _ _ (hI.y zAJ rfl)
        ·refine zF.liftA kR dE ?_
         intro L T wS hL hd hcl hI K hK;try refine zA rfl ?_
         obtain⟨_,zt9,rfl⟩:=hI.v mm9 (hd 9);obtain⟨_,zt11,rfl⟩:=hI.v zAJ (hd 11);go_simp;exact hK _ _ (hI.y zAo rfl)
        ·refine zF.liftA kR dE ?_
         intro L T wS hL hd hcl hI K hK;try refine zA rfl ?_
         obtain⟨_,zt12,rfl⟩:=hI.v zAo (hd 12);have cc0:=hI.cell (sI) oM x1;have cc1:=hI.cell (sI) oM x2;go_simp;exact hK _ _ (hI.y zCF rfl)
        ·refine zF.liftA kR dE ?_
         intro L T wS hL hd hcl hI K hK;try refine zA rfl ?_
         have zt:T[12]?=some (.pointer (some ⟨be,0,none⟩)):=hI.keep 12 sI;go_simp;exact hK _ _ (hI.y zBp rfl)
        ·refine zF.liftA kR dE ?_
         intro L T wS hL hd hcl hI K hK;try refine zA rfl ?_
         obtain⟨_,zt14,rfl⟩:=hI.v zBp (hd 14);go_simp;exact hK _ _ (hI.y zCS rfl)
        ·refine zF.liftA kR dE ?_
         intro L T wS hL hd hcl hI K hK;try refine zA rfl ?_
         obtain⟨_,zt15,rfl⟩:=hI.v zCS (hd 15);go_simp;exact hK _ _ (hI.y zDs rfl)
        ·refine zF.liftA kR dE ?_
         intro L T wS hL hd hcl hI K hK;try refine zA rfl ?_
         obtain⟨_,zt16,rfl⟩:=hI.v zDs (hd 16);go_simp;exact hK _ _ (hI.y zEs rfl)
        ·refine zF.liftA kR dE ?_
         intro L T wS hL hd hcl hI K hK;try refine zA rfl ?_
         obtain⟨_,zt17,rfl⟩:=hI.v zEs (hd 17);have cc0:=hI.cell (sI) oM d1;go_simp;exact hK _ _ (hI.y zCT rfl)
        ·refine zF.liftA kR dE ?_
         intro L T wS hL hd hcl hI K hK;try refine zA rfl ?_
         have zt:T[16]?=some (.int .i64 i):=hI.keep 16 sI;go_simp;exact hK _ _ (hI.y zEt rfl)
        ·refine zF.liftA kR dE ?_
         intro L T wS hL hd hcl hI K hK;try refine zA rfl ?_
         obtain⟨_,zt18,rfl⟩:=hI.v zCT (hd 18);obtain⟨_,zt19,rfl⟩:=hI.v zEt (hd 19);go_simp;exact hK _ _ (hI.y zEZ rfl)
        ·refine zF.liftA kR dE ?_
         intro L T wS hL hd hcl hI K hK;try refine zA rfl ?_
         obtain⟨_,zt20,rfl⟩:=hI.v zEZ (hd 20);have cc0:=hI.cell (sI) oM q1;go_simp;exact hK _ _ (hI.y zEa rfl)
        ·refine zF.liftA kR dE ?_
         intro L T wS hL hd hcl hI K hK;try refine zA rfl ?_
         have zt:T[17]?=some (.int .i64 t):=hI.keep 17 sI;go_simp;exact hK _ _ (hI.y zFT rfl)
        ·refine zF.liftA kR dE ?_
         intro L T wS hL hd hcl hI K hK;try refine zA rfl ?_
         obtain⟨_,zt21,rfl⟩:=hI.v zEa (hd 21);obtain⟨_,zt22,rfl⟩:=hI.v zFT (hd 22);go_simp;exact hK _ _ (hI.y zFU rfl)
        ·refine zF.liftA kR dE ?_
         intro L T wS hL hd hcl hI K hK;try refine zA rfl ?_
         obtain⟨_,zt23,rfl⟩:=hI.v zFU (hd 23);have cc0:=hI.cell (sI) oM y1;have cc1:=hI.cell (sI) oM y2;go_simp;exact hK _ _ (hI.y zHM rfl)
        ·refine zF.liftA kR dE ?_
         intro L T wS hL hd hcl hI K hK;try refine zA rfl ?_
         obtain⟨_,zt13,rfl⟩:=hI.v zCF (hd 13);obtain⟨_,zt24,rfl⟩:=hI.v zHM (hd 24);go_simp;refine(HOF.out _ _ _ (ZV.out.ext hI.onl.lext) (UV.out.ext hI.onl.lext)).mono ?_;rintro e wa ⟨v,rfl,hv,hba⟩;exact hK _ _ ((hI.world hba).y zEu hv)
        ·refine zF.liftA kR dE ?_
         intro L T wS hL hd hcl hI K hK;try refine zA rfl ?_
         obtain⟨v25,zt25,h25⟩:=hI.v zEu (hd 25);go_simp;exact hK _ _ (hI.y zIX h25)
        ·refine zF.liftA kR dE ?_
         intro L T wS hL hd hcl hI K hK;try refine zA rfl ?_
         obtain⟨v26,zt26,h26⟩:=hI.v zIX (hd 26);obtain⟨qq,rfl,hq⟩:=h26;go_simp;exact hK _ _ (hI.y zJL hq)
        ·intro L T wS hL hd hcl hI K hK
         try refine zA rfl ?_
         obtain⟨w0,hJ,-,-⟩:=id hI;obtain⟨z26,zt26,hz26⟩:=hJ.val _ zIX (hd 26);obtain⟨qq,rfl,hq⟩:QOf Q w0 z26:=hz26;go_simp;exact hK _ _ (hI.pure ⟨28,162,_⟩ zJq rfl (fun _=>rfl) dE (fun _=>zIj dE dE))
        ·refine zF.liftA kR dE ?_
         intro L T wS hL hd hcl hI K hK;try refine zA rfl ?_
         obtain⟨_,zt0,rfl⟩:=hI.v mm0 (hd 0);obtain⟨_,zt1,rfl⟩:=hI.v mm1 (hd 1);go_simp;exact hK _ _ (hI.y zIY rfl)
        ·intro L T wS hL hd hcl hI K hK
         try refine zA rfl ?_
         replace hI:=hI.here hL;obtain⟨_,zt29,rfl⟩:=hI.v zIY (hd 29);obtain⟨z27,zt27,hz27⟩:=hI.v zJL (hd 27);obtain⟨t1,ta,tl,tc,t2,tb,tm,td,rfl,-,-⟩:=id hz27;obtain⟨_,_,_,_,_,_,_,_,v1,v2,v3,v4,v5,-⟩:=(hp.only hI.onl sI).cell (zAh htn);have v6:=v5 (t*4);have v7:=v5 (t*4+1);have v8:=v5 (t*4+2);have v9:=v5 (t*4+3);clear v5;go_simp;exact hK _ _ (RAS.store hI hL (by repeat' (first|exact xgn _|refine xgm.2 ⟨by dsimp only;decide,?_⟩)) dE (zGA zt29 zt27).symm)
       intro T w9f hJ;obtain⟨w9,hI,-,hstw9⟩:=hJ;replace hstw9:=hstw9 kR;obtain⟨vz0,q0,rfl⟩:=hI.v mm0 rfl;obtain⟨vz1,q1,rfl⟩:=hI.v mm1 rfl;obtain⟨vz2,q2,rfl⟩:=hI.v mm2 rfl;obtain⟨vz3,q3,rfl⟩:=hI.v mm3 rfl;obtain⟨vz4,q4,rfl⟩:=hI.v mm4 rfl;obtain⟨vz5,q5,rfl⟩:=hI.v mm5 rfl;obtain⟨vz6,q6,rfl⟩:=hI.v mm6 rfl;obtain⟨vz7,q7,rfl⟩:=hI.v mm7 rfl;obtain⟨vz8,q8,rfl⟩:=hI.v mm8 rfl;obtain⟨vz9,q9,rfl⟩:=hI.v mm9 rfl;obtain⟨vz10,q10,rfl⟩:=hI.v zAC rfl;obtain⟨vz11,q11,rfl⟩:=hI.v zAJ rfl;obtain⟨vz12,q12,rfl⟩:=hI.v zAo rfl;obtain⟨vz13,q13,rfl⟩:=hI.v zCF rfl;obtain⟨vz14,q14,rfl⟩:=hI.v zBp rfl;obtain⟨vz15,q15,rfl⟩:=hI.v zCS rfl;obtain⟨vz16,q16,rfl⟩:=hI.v zDs rfl;obtain⟨vz17,q17,rfl⟩:=hI.v zEs rfl;obtain⟨vz18,q18,rfl⟩:=hI.v zCT rfl;obtain⟨vz19,q19,rfl⟩:=hI.v zEt rfl;obtain⟨vz20,q20,rfl⟩:=hI.v zEZ rfl;obtain⟨vz21,q21,rfl⟩:=hI.v zEa rfl;obtain⟨vz22,q22,rfl⟩:=hI.v zFT rfl;obtain⟨vz23,q23,rfl⟩:=hI.v zFU rfl;obtain⟨vz24,q24,rfl⟩:=hI.v zHM rfl;obtain⟨vz25,q25,hz25⟩:=hI.v zEu rfl;obtain⟨vz26,q26,hz26⟩:=hI.v zIX rfl;obtain⟨vz27,q27,hz27⟩:=hI.v zJL rfl;obtain⟨vz28,q28,rfl⟩:=hI.v zJq rfl;obtain⟨vz29,q29,rfl⟩:=hI.v zIY rfl;have hT:=zAH [(135,.slice (some ⟨g,0,none⟩) n n),(136,.int .i64 t),(137,.pointer (some ⟨be,0,none⟩)),(138,.pointer (some ⟨be,0,none⟩)),(139,.pointer (some ⟨be,0,none⟩)),(140,.pointer (some ⟨be,0,none⟩)),(141,.slice (some ⟨bh,0,none⟩) C cap),(142,.int .i64 i),(143,.pointer (some ⟨bh,i,none⟩)),(144,.slice (some ⟨rb,0,none⟩) m rc),(145,.pointer (some ⟨w.heap.size,0,none⟩)),(146,.int .i64 n),(147,.pointer (some ⟨rb,n*2,none⟩)),(148,.agg #[.bool s1,.slice a1 l1 k1]),(149,.pointer (some ⟨be,0,none⟩)),(150,.pointer (some ⟨be,0,none⟩)),(151,.pointer (some ⟨be,0,none⟩)),(152,.pointer (some ⟨be,0,none⟩)),(153,.slice (some ⟨bh,0,none⟩) C cap),(154,.int .i64 i),(155,.pointer (some ⟨bh,i,none⟩)),(156,.slice (some ⟨rb,0,none⟩) m rc),(157,.int .i64 t),(158,.pointer (some ⟨rb,t*2,none⟩)),(159,.agg #[.bool s2,.slice a2 l2 k2]),(160,vz25),(134,vz26),(161,vz27),(162,.int .i64 0),(163,.pointer (some ⟨g,t*4,none⟩))]
        (fun j hj=>hI.keep j (by simp only[xgm]at hj ⊢;simp[hj]))
        (by simp only[xgm];simp[q0,q1,q2,q3,q4,q5,q6,q7,q8,q9,q10,q11,q12,q13,q14,q15,q16,q17,q18,q19,q20,q21,q22,q23,q24,q25,q26,q27,q28,q29]) hI.size
       have how9:=hI.onl;clear hI;simp only[List.foldl_cons,List.foldl_nil,xgh,xgi,xgj,ptr]at hT;subst hT;clear q0 q1 q2 q3 q4 q5 q6 q7 q8 q9 q10 q11 q12 q13 q14 q15 q16 q17 q18 q19 q20 q21 q22 q23 q24 q25 q26 q27 q28 q29;have hbw9:=zD4 how9;obtain⟨t1,ta,tl,tc,t2,tb,tm,td,rfl,i5,i6⟩:=id (show jW _ _ _ from hz27);have hw9:=hstw9.trans (zGA rfl rfl);have hp9:=hp.below hbw9;have hset:=hp9.set (k:=t) (p:=prQ Q) (by rw[qG];exact htn) i5 i6;rw[zIP,zAd (g:=fun a=>prQ (zEz S n (i+1) a)) fun a _=>(HQE.out a).symm]at hset;have hog:yC [g] w9 w9f:=by
        rw[hw9];exact⟨jC (Below.refl _ _) (Nat.zero_le _) _ _ _ _ _,hset.2,fun k' _ hk'=>zEA _ _ _ _ _ _ _ _ (by simpa using hk')⟩
       rw[<-hw9]at hset;have hfin:=(ho.trans (yC.of [g] hbw9)).trans hog;have hset1:=hset.1;clear hset hw9 hstw9 hz25 hz26 hz27 how9 i5 i6 hl3 hl4 hl5;go_wp2;go_roundw
       case rel=>exact⟨i+1,by omega,by simp,hfin,hset1⟩
       case measure=>simp[intOf];omega
      ·obtain rfl:i=k:=by omega
       have hpx:=hp.prs (qG _ _) (xgf n) (by omega:n<=9223372036854775807);have hBE:=nx hB hbu;go_wp2;refine bodyPost_ret (zCo (fn:=Tryz.f161) (a:=4) (b:=5) (c:=6) rfl _ _ _) rfl ?_;exact⟨.inr ⟨_,hzz.out,rfl,by rw[HK.out];exact hpx⟩,hBE⟩
theorem zMG{e:Nat}(v:Value)(n:Nat)(Y:Nat->Rat)(w:World)(h:zAn w v (jZ n fun t=>prQ (Y t)))(hn:n<=1000000)(he:e+10<=1000000)(hY:∀t,t<n->HQ e (Y t)):
  Calls Tryz.prog 162 #[v] w fun e w'=>∃v,e= .returned v/\zAn w' v (jZ n fun t=>prQ (Y t/2))/\Below w.heap.size w w':=by
 obtain⟨ao,m,cap,rfl,h2,h3,h4,-⟩:=id h;rw[qG]at h2;subst h2;have H:=xgv h;have HDV:qF (∀(v1 v2:Value) (t:Nat) (w:World),t<n->jW w v1 (Y t)->jW w v2 2->Calls Tryz.prog 233 #[v1,v2] w fun e w'=>∃v,e= .returned v/\QOf (Y t/2) w' v/\Below w.heap.size w w'):=⟨fun v1 v2 t w ht k1 k2=>by
  refine(zMy (a:=e) (b:=2) v1 v2 (Y t) 2 w k1 k2 (hY t ht) ⟨by decide,by decide⟩ oM dE).mono ?_;rintro e' w' ⟨v,rfl,h1,h2⟩;exact⟨_,rfl,⟨v,rfl,h1⟩,h2⟩⟩
 obtain⟨F,hF⟩:∃F:Nat->Int × Int,(fun t=>prQ (Y t/2))=F:=⟨_,rfl⟩;have HFE:qF (∀k,F k=prQ (Y k/2)):=⟨fun k=>by rw[<-hF]⟩;rw[hF];have hmk:=fun W=>mkQ (n:Int) n rfl oM W
 clear h hY hF he;go_enter Tryz.func162,Tryz.ntmps162;go_upto_region 2 with(fail)
 refine zB ?_;intro W1 hW1;have hB:Below w.heap.size w W1:=by rw[hW1.out];exact(Below.refl _ _).alloc (xgf _) _
 have hp:zAQ W1 w.heap.size (jZ n (zCr F (fun _=>(0,0)) 0)):=by
  rw[hW1.out,show jZ n (zCr F (fun _=>(0,0)) 0)=jZ n fun _=>(0,0) from zAd fun k _=>by unfold zCr;rw[if_neg oM]];exact zIi w n
 clear hW1;obtain⟨g,hg⟩:∃g,w.heap.size=g:=⟨_,rfl⟩;have HGE:=xgv hg;go_wp2;rw[hg]at hp ⊢
 clear hg;go_loopw [11] (fun iv wr=>∃i:Nat,i<=n/\iv= .int .i64 i/\Below w.heap.size w wr/\zAQ wr g (jZ n (zCr F (fun _=>(0,0)) i))) (fun iv _=>n-(intOf iv).toNat)
 case atStart=>exact⟨0,by omega,rfl,hB,hp⟩
 case round=>
  clear hB hp;obtain⟨i,hi,rfl,hB,hp⟩:=hrel;by_cases hlt:i<n
  ·obtain⟨b,p,s1,a1,l1,k1,s2,a2,l2,k2,rfl,hbl,hpk,q1,q2,q3,q4,i1,i2⟩:=(H.out.below hB).cell (k:=i) (by rw[qG];exact hlt)
   rw[zAh hlt]at hpk;injection hpk with hpk
   subst hpk;have HY:qF (jW wr (.agg #[.bool s1,.slice a1 l1 k1,.bool s2,.slice a2 l2 k2]) (Y i)):=⟨⟨_,_,_,_,_,_,_,_,rfl,i1,i2⟩⟩;clear i1 i2;go_upto_region 5 with(fail)
   refine zB ?_;intro W2 hW2;obtain⟨hB2,T5,hs2⟩:=zK hW2;have hp:=hp.below hB2;have hB:=nx hB hB2;obtain⟨c1,c2,c3,c4,c5,c6,c7,c8⟩:=T5.four;have HY:=xgv (HY.out.below hB2);have hl1:=yD 2;have hl2:qS (QOf (Y i/2)):=fun _ _ _ x ⟨v,h1,h2⟩=>⟨v,h1,h2.below x⟩
   have hl3:=yD (Y i/2);have lt5:=T5.lt;have ltg:=hp.lt;clear hW2 q1 q2 q3 q4;refine zE rfl (RAS ([]) 99 W2 _ [⟨0,17,fun _ v=>v= .slice (some ⟨g,0,none⟩) n n⟩,⟨1,18,fun _ v=>v= .int .i64 i⟩,⟨2,19,fun _ v=>v= .agg #[.bool s1,.slice a1 l1 k1,.bool s2,.slice a2 l2 k2]⟩,⟨3,20,fun w v=>zH w v (2)⟩,⟨4,21,fun w v=>jW w v 2⟩,⟨5,22,QOf (Y i/2)⟩,⟨6,16,QOf (Y i/2)⟩,⟨7,23,fun w v=>jW w v (Y i/2)⟩,⟨8,24,fun _ v=>v= .int .i64 0⟩,⟨9,25,fun _ v=>v= .pointer (some ⟨g,i*4,none⟩)⟩] 10 (zOa 25 23)) kR (RAS.start (RA.start kR (by repeat' (first|exact yJ _|exact jD _|exact yR _ _ _|exact qW _|assumption|refine xgm.2 ⟨?_,?_⟩|exact xgn _)))) ?fin1 ?steps1
   case steps1=>
    refine⟨?_,?_,?_,?_,?_,?_,?_,?_,?_,?_,?_,trivial⟩
    ·refine zF.liftA kR dE ?_
     intro L T wS hL hd hcl hI K hK;try refine zA rfl ?_
     have zt:T[3]?=some (.slice (some ⟨g,0,none⟩) n n):=hI.keep 3 sI;go_simp;exact hK _ _ (hI.y mm0 rfl)
    ·refine zF.liftA kR dE ?_
     intro L T wS hL hd hcl hI K hK;try refine zA rfl ?_
     have zt:T[4]?=some (.int .i64 i):=hI.keep 4 sI;go_simp;exact hK _ _ (hI.y mm1 rfl)
    ·refine zF.liftA kR dE ?_
     intro L T wS hL hd hcl hI K hK;try refine zA rfl ?_
     have zt:T[5]?=some (.pointer (some ⟨wr.heap.size,0,none⟩)):=hI.keep 5 sI;have cc0:=hI.cell (sI) oM c1;have cc1:=hI.cell (sI) oM c2;have cc2:=hI.cell (sI) oM c3;have cc3:=hI.cell (sI) oM c4;go_simp;exact hK _ _ (hI.y mm2 rfl)
    ·refine zF.liftA kR dE ?_
     intro L T wS hL hd hcl hI K hK;try refine zA rfl ?_
     go_simp;refine(zBF 2 _ dE dE).mono ?_;rintro e wa ⟨v,rfl,hv,hba⟩;exact hK _ _ ((hI.world hba).y mm3 hv)
    ·refine zF.liftA kR dE ?_
     intro L T wS hL hd hcl hI K hK;try refine zA rfl ?_
     obtain⟨v3,zt3,h3⟩:=hI.v mm3 (hd 3);go_simp;refine(zDf _ 2 _ h3 (Sm.mono (z:=2) (qL (e:=2) dE dE) dE)).mono ?_;rintro e wa ⟨v,rfl,hv,hba⟩;exact hK _ _ ((hI.world hba).y mm4 hv)
    ·refine zF.liftA kR dE ?_
     intro L T wS hL hd hcl hI K hK;try refine zA rfl ?_
     obtain⟨_,zt2,rfl⟩:=hI.v mm2 (hd 2);obtain⟨v4,zt4,h4⟩:=hI.v mm4 (hd 4);go_simp;refine(HDV.out _ _ i _ hlt (HY.out.ext hI.onl.lext) h4).mono ?_;rintro e wa ⟨v,rfl,hv,hba⟩;exact hK _ _ ((hI.world hba).y mm5 hv)
    ·refine zF.liftA kR dE ?_
     intro L T wS hL hd hcl hI K hK;try refine zA rfl ?_
     obtain⟨v5,zt5,h5⟩:=hI.v mm5 (hd 5);go_simp;exact hK _ _ (hI.y mm6 h5)
    ·refine zF.liftA kR dE ?_
     intro L T wS hL hd hcl hI K hK;try refine zA rfl ?_
     obtain⟨v6,zt6,h6⟩:=hI.v mm6 (hd 6);obtain⟨qq,rfl,hq⟩:=h6;go_simp;exact hK _ _ (hI.y mm7 hq)
    ·intro L T wS hL hd hcl hI K hK
     try refine zA rfl ?_
     obtain⟨w0,hJ,-,-⟩:=id hI;obtain⟨z26,zt26,hz26⟩:=hJ.val _ mm6 (hd 6);obtain⟨qq,rfl,hq⟩:QOf (Y i/2) w0 z26:=hz26;go_simp;exact hK _ _ (hI.pure ⟨8,24,_⟩ mm8 rfl (fun _=>rfl) dE (fun _=>zIj dE dE))
    ·refine zF.liftA kR dE ?_
     intro L T wS hL hd hcl hI K hK;try refine zA rfl ?_
     obtain⟨_,zt0,rfl⟩:=hI.v mm0 (hd 0);obtain⟨_,zt1,rfl⟩:=hI.v mm1 (hd 1);go_simp;exact hK _ _ (hI.y mm9 rfl)
    ·intro L T wS hL hd hcl hI K hK
     try refine zA rfl ?_
     replace hI:=hI.here hL;obtain⟨_,zt29,rfl⟩:=hI.v mm9 (hd 9);obtain⟨z27,zt27,hz27⟩:=hI.v mm7 (hd 7);obtain⟨t1,ta,tl,tc,t2,tb,tm,td,rfl,-,-⟩:=id hz27;obtain⟨_,_,_,_,_,_,_,_,v1,v2,v3,v4,v5,-⟩:=(hp.only hI.onl sI).cell (zAh hlt);have v6:=v5 (i*4);have v7:=v5 (i*4+1);have v8:=v5 (i*4+2);have v9:=v5 (i*4+3);clear v5;go_simp;exact hK _ _ (RAS.store hI hL (by repeat' (first|exact xgn _|refine xgm.2 ⟨by dsimp only;decide,?_⟩)) dE (zGA zt29 zt27).symm)
   intro T w9f hJ;obtain⟨w9,hI,-,hstw9⟩:=hJ;replace hstw9:=hstw9 kR;obtain⟨vz0,q0,rfl⟩:=hI.v mm0 rfl;obtain⟨vz1,q1,rfl⟩:=hI.v mm1 rfl;obtain⟨vz2,q2,rfl⟩:=hI.v mm2 rfl;obtain⟨vz3,q3,hz3⟩:=hI.v mm3 rfl;replace hz3:zH w9 vz3 (2):=hz3;obtain⟨vz4,q4,hz4⟩:=hI.v mm4 rfl;obtain⟨vz5,q5,hz5⟩:=hI.v mm5 rfl;obtain⟨vz6,q6,hz6⟩:=hI.v mm6 rfl;obtain⟨vz7,q7,hz7⟩:=hI.v mm7 rfl;obtain⟨vz8,q8,rfl⟩:=hI.v mm8 rfl;obtain⟨vz9,q9,rfl⟩:=hI.v mm9 rfl;have hT:=zAH [(17,.slice (some ⟨g,0,none⟩) n n),(18,.int .i64 i),(19,.agg #[.bool s1,.slice a1 l1 k1,.bool s2,.slice a2 l2 k2]),(20,vz3),(21,vz4),(22,vz5),(16,vz6),(23,vz7),(24,.int .i64 0),(25,.pointer (some ⟨g,i*4,none⟩))]
    (fun j hj=>hI.keep j (by simp only[xgm]at hj ⊢;simp[hj]))
    (by simp only[xgm];simp[q0,q1,q2,q3,q4,q5,q6,q7,q8,q9]) hI.size
   have how9:=hI.onl;clear hI;simp only[List.foldl_cons,List.foldl_nil,xgh,xgi,xgj,ptr]at hT;subst hT;clear q0 q1 q2 q3 q4 q5 q6 q7 q8 q9;have hbw9:=zD4 how9;obtain⟨t1,ta,tl,tc,t2,tb,tm,td,rfl,i5,i6⟩:=id (show jW _ _ _ from hz7);have hw9:=hstw9.trans (zGA rfl rfl);have hp9:=hp.below hbw9;have hset:=hp9.set (k:=i) (p:=prQ (Y i/2)) (by rw[qG];exact hlt) i5 i6;rw[<-HFE.out,zHI,<-hw9]at hset;have hB9:Below w.heap.size w w9f:=by rw[hw9];exact jC (nx hB hbw9) (by rw[HGE.out];exact xgf _) _ _ _ _ _
   have hset1:=hset.1;clear hset hw9 hstw9 hz3 hz4 hz5 hz6 hz7 how9 i5 i6 hl1 hl2 hl3 c1 c2 c3 c4 c5 c6 c7 c8;go_wp2;go_roundw
   case rel=>exact⟨i+1,by omega,by simp,hB9,hset1⟩
   case measure=>simp[intOf];omega
  ·obtain rfl:i=n:=by omega
   rw[show jZ i (zCr F (fun _=>(0,0)) i)=jZ i F from zAd fun k hk=>by unfold zCr;rw[if_pos hk]]at hp;have hpx:=hp.prs (qG _ _) (xgf i) (by omega:i<=9223372036854775807);go_wp2;go_ret;exact⟨_,rfl,hpx,hB⟩
theorem zKT(v:Value)(q:Rat)(w:World)(h:jW w v q):Calls Tryz.prog 164 #[v] w fun e w'=>∃u,e= .returned u/\u= .bool (!isZ q)/\Below w.heap.size w w':=by
 obtain⟨s1,a1,l1,k1,s2,a2,l2,k2,rfl,i1,i2⟩:=id h;obtain⟨b,hb⟩:∃b,isZ q=b:=⟨_,rfl⟩;have HI:qF (∀(v:Value) (w:World),jW w v q->Calls Tryz.prog 165 #[v] w fun e w'=>∃u,e= .returned u/\u= .bool b/\Below w.heap.size w w'):=⟨fun v w hv=>hb ▸ zBn v q w hv⟩;have H:=xgv h;rw[hb];clear h i1 i2 hb;go_enter Tryz.func164,Tryz.ntmps164;go_upto_region 1 with(fail)
 refine zB ?_;intro W0 hW0;obtain⟨hB0,T1,hs0⟩:=zK hW0;obtain⟨c1,c2,c3,c4,c5,c6,c7,c8⟩:=T1.four;clear hW0;go_wp2_with fail
 refine(HI.out _ W0 (H.out.below hB0)).mono ?_;rintro e w1 ⟨u,rfl,rfl,hb1⟩;go_wp2;go_ret;exact⟨_,rfl,rfl,nx hB0 hb1⟩
theorem zMS(v:Value)(n:Nat)(X:Nat->Rat)(w:World)(h:zAn w v (jZ n fun t=>prQ (X t)))(hn:n<=1000000):
  Calls Tryz.prog 163 #[v,.func (.func 164) #[] #[]] w fun e w'=>∃k:Int,e= .returned (.int .i64 k)/\((k=-1/\∀i,i<n->isZ (X i)=true)∨∃i:Nat,i<n/\k=i/\isZ (X i)=false)/\Below w.heap.size w w':=by
 obtain⟨ao,m,cap,rfl,h2,h3,h4,-⟩:=id h;rw[qG]at h2;subst h2;have H:=xgv h;clear h;go_enter Tryz.func163,Tryz.ntmps163;go_wp2;go_loopw [8] (fun iv wr=>∃i:Nat,i<=n/\iv= .int .i64 i/\Below w.heap.size w wr/\qF (∀a,a<i->isZ (X a)=true)) (fun iv _=>n-(intOf iv).toNat)
 case atStart=>exact⟨0,by omega,rfl,Below.refl _ _,⟨fun a h=>by omega⟩⟩
 case round=>
  obtain⟨i,hi,rfl,hB,hz⟩:=hrel;by_cases hlt:i<n
  ·obtain⟨b,p,s1,a1,l1,k1,s2,a2,l2,k2,rfl,hbl,hpk,q1,q2,q3,q4,i1,i2⟩:=(H.out.below hB).cell (k:=i) (by rw[qG];exact hlt)
   rw[zAh hlt]at hpk;injection hpk with hpk
   subst hpk;have HY:qF (jW wr (.agg #[.bool s1,.slice a1 l1 k1,.bool s2,.slice a2 l2 k2]) (X i)):=⟨⟨_,_,_,_,_,_,_,_,rfl,i1,i2⟩⟩;clear i1 i2;go_wp2_with fail
   refine(zKT _ (X i) wr HY.out).mono ?_;rintro e w1 ⟨u,rfl,rfl,hb1⟩;cases hc:isZ (X i)with
   | true=>
    have hzz:qF (∀a,a<i+1->isZ (X a)=true):=⟨fun a h=>by
     rcases Nat.lt_or_ge a i with h2|h2
     ·exact hz.out a h2
     ·obtain rfl:a=i:=by omega
      exact hc⟩
    clear hc;go_wp2;go_roundw
    case rel=>exact⟨i+1,by omega,by simp,nx hB hb1,hzz⟩
    case measure=>simp[intOf];omega
   |false=>
    have HC:=xgv hc;clear hc;go_wp2;go_ret;exact⟨_,rfl,.inr ⟨i,hlt,rfl,HC.out⟩,nx hB hb1⟩
  ·obtain rfl:i=n:=by omega
   go_wp2;go_ret;exact⟨_,rfl,.inl ⟨rfl,hz.out⟩,hB⟩
def zRH(n:Nat)(F:Nat->Nat->Int)(j:Nat):Int:=qE j fun t=>sg1 t*(F 0 t*det n (mnr F 0 t))
def zO1(m C:Nat)(A:Nat->Nat->Int)(x:Nat->Int):Prop:=∃y:Nat->Int,∀b,b<C->x b=qE m fun a=>y a*A a b
def zQ7(R C:Nat)(A:Nat->Nat->Int)(x:Nat->Int):Prop:=∀b,b<C->(qE R fun a=>x a*A a b)=0
def zQh(R C:Nat)(A:Nat->Nat->Int)(x:Nat->Int):Prop:=∀y:Nat->Int,(∀a,a<R->(qE C fun b=>A a b*y b)=0)->(qE C fun b=>x b*y b)=0
structure HB(C m:Nat)(G:Nat->Nat->Int)(L:(Nat->Int)->Prop):Prop where
 hnf:∃c,Hnf C m m c G
 iff:∀x,L x↔zO1 m C G x
def zRI(m:Nat)(G:Nat->Nat->Int):Nat->Nat->Int:=fun a b=>if a<m then G a b else 0
def zRG(r:Nat)(U:Nat->Nat->Int):Nat->Nat->Int:=fun a b=>U (r+a) b
def zQe(k R C:Nat)(A:Nat->Nat->Int):Prop:=∃σ τ:Nat->Nat,(∀a,a<k->σ a<R)/\(∀a,a<k->τ a<C)/\det k (fun a b=>A (σ a) (τ b))≠0
structure zRA(R C:Nat)(A:Nat->Nat->Int):Prop where
 sat:∀x,zQh R C A x->zO1 R C A x
 full:zQe R R C A
theorem zKr(v:Value)(zs:List Int)(w:World)(h:qT w v zs):
  Calls Tryz.prog 71 #[v] w fun e w'=>e= .returned (.bool (decide (∀z∈zs,z=0)))/\Below w.heap.size w w':=by
 obtain⟨ao,n,cap,rfl,e2,e3,e4,-⟩:=id h;have HX:=xgw e2;clear e2;obtain⟨ans,hans⟩:∃ans,decide (∀z∈zs,z=0)=ans:=⟨_,rfl⟩;rw[hans];have HA:=xgw hans;clear hans;go_enter Tryz.func71,Tryz.ntmps71;go_wp2;go_loopw [7] (fun iv wr=>∃k:Nat,k<=n/\iv= .int .i64 k/\Below w.heap.size w wr/\Hid (∀z∈zs.take k,z=0)) (fun iv _=>n-(intOf iv).toNat)
 case atStart=>exact⟨0,by omega,rfl,Below.refl _ _,xgw sI⟩
 case round=>
  obtain⟨k,hk,rfl,hb,hz⟩:=hrel;by_cases hlt:k<n
  ·obtain⟨b,z,s,a,l,c,rfl,hbl,hzk,q1,q2,hzv⟩:=(h.below hb).cell (k:=k) (by rw[HX.out];exact hlt)
   have HZ:=xgw hzk;clear hzk;go_upto_region 4 with(fail)
   refine zB ?_;intro W1 hW1;obtain⟨hB1,T4,hs1⟩:=zK hW1;obtain⟨d1,d2,d3,d4⟩:=T4.two;clear q1 q2 hW1;go_wp2_with fail
   refine(qU _ z W1 (hzv.ext (lx hB1)).weak).mono ?_;rintro e w2 ⟨rfl,hb2⟩;have hb':=nx (nx hb hB1) hb2;clear d1 d2 d3 d4;by_cases h0:z=0
   ·have hc:(qJ z 0 !=0)=false:=by rw[h0];decide
    obtain⟨q,hq⟩:∃q,qJ z 0=q:=⟨_,rfl⟩;rw[hq]at hc ⊢
    clear hq;go_wp2;go_roundw
    case rel=>
     refine⟨k+1,by omega,by simp,hb',xgw ?_⟩;rw[List.take_add_one,HZ.out];intro y hy;rcases List.mem_append.1 hy with h1|h1
     ·exact hz.out y h1
     ·simp at h1
      rw[h1,h0]
    case measure=>simp[intOf];omega
   ·have hc:(qJ z 0 !=0)=true:=by
     rw[bne_iff_ne];unfold qJ;split<;>(try split)<;>omega
    obtain⟨q,hq⟩:∃q,qJ z 0=q:=⟨_,rfl⟩;rw[hq]at hc ⊢
    clear hq;go_wp2;go_ret;refine⟨?_,hb'⟩;rw[<-HA.out,decide_eq_false (fun hh=>h0 (hh z (xgd HZ.out)))];rfl
  ·obtain rfl:k=n:=by omega
   go_wp2;go_ret;refine⟨?_,hb⟩;have:=hz.out;rw[<-HX.out,List.take_length]at this;rw[<-HA.out,decide_eq_true this];rfl

def zQw(M:List (List Int))(xs ys:List Nat):Nat->Nat->Int:=fun a b=>ent M (xs.getD a 0) (ys.getD b 0)
def zQz(n k:Nat):List Nat:=(List.range n).take k++(List.range n).drop (k+1)
def lap(n:Nat)(M:List (List Int))(j:Nat):Int:=qE j fun t=>sg1 t*(ent M 0 t*det n (mnr (ent M) 0 t))
def zNi(t:TypeId)(n0:Nat)(cs:Array Value)(w:World)(v:Value):Prop:=∃b,v= .pointer (some ⟨b,0,none⟩)/\n0<=b/\Blk w b t cs
theorem zBV(t:TypeId)(n0:Nat)(cs:Array Value):qS (zNi t n0 cs):=fun _ _ _ e ⟨b,h1,h2,h3⟩=>⟨b,h1,h2,h3.below e⟩
def zJy(R C:Int)(M:List (List Int))(w:World)(v:Value):Prop:=∃u,v= .tuple #[u,.int .i64 0]/\yP w u R C M
theorem zHi(R C:Int)(M:List (List Int)):qS (zJy R C M):=fun _ _ _ e ⟨u,h1,h2⟩=>⟨u,h1,h2.below e⟩
end Go.Proofs.YtnbmaipobhppcaaGreat
