/- bareiss.Solve. diophant: half, the first fraction of a list. Plain: the determinant and the pivots. Plain: lattices, their Hermite bases, kernels and saturations. Plain: ranks by minors; how large the Hermite bases of kernels and saturations are. Plain: saturations, primitive matrices, complements. kernel.cut, kernel.rank. torsionref05.inside. torsionref05.Pick. Plain: the minors of Laplace's expansion as picked matrices. torsionref13.determinant. diophant.refute. diophant.Solve. What diophant.Check uses: valid, ContainsFunc, EqualFunc. diophant.dot. diophant.solves, refutes. diophant.kind, Check. diophant.Check at a row. -/
import Derived.Test.YtnbmaipobhppcaaGreatE04
import Derived.Test.YtnbmaipobhppcaaGreatE05
import Derived.Test.YtnbmaipobhppcaaGreatE06
import Derived.Test.YtnbmaipobhppcaaGreatE08
import Derived.Test.YtnbmaipobhppcaaGreatE10
import Derived.Test.YtnbmaipobhppcaaGreatE11
import Derived.Test.YtnbmaipobhppcaaGreatE12
set_option linter.unusedVariables false
set_option linter.unusedSimpArgs false
set_option linter.unusedSectionVars false
set_option maxHeartbeats 16000000
set_option maxRecDepth 100000
namespace Go.Proofs.YtnbmaipobhppcaaGreat
open Go.RowKit
theorem zOj(v:Value)(R C:Nat)(M:List (List Int))(w:World)(h:jE w v R C M)(hF:jT R C M):
  Calls Tryz.prog 68 #[v] w fun e w'=>∃v,e= .returned v/\v= .bool true/\Below w.heap.size w w':=
 (yF v R C M w h).mono fun e w' h=>⟨_,h.1,by rw[decide_eq_true hF.valid],h.2⟩
def zMC(lo n:Nat)(f:Nat->Int × Int):World->Value->Prop:=fun w v=>∃g,v= .slice (some ⟨g,0,none⟩) n n/\lo<=g/\zAS w g (zAC n f)
theorem zQQ(b n:Nat)(dv:Value)(w:World)(hr:qC w b (zM n fun _=>0))(hd:zH w dv 1)(hn:n<=1000000):
  Calls Tryz.prog 231 #[.slice (some ⟨b,0,none⟩) n n,dv] w fun e w'=>∃g,e= .returned (.slice (some ⟨g,0,none⟩) n n)/\w.heap.size<=g/\zAS w' g (zAC n fun _=>(0,1))/\Below w.heap.size w w':=by
 have h:=zIy (e:=1) b 0 n n (zM n fun _=>0) (fun _=>0) dv 1 w hr (fun k hk=>by rw[Nat.zero_add];exact zP hk) hd dE dE dE (fun k _=>by decide) hn;have e:prQ (Rat.divInt 0 1)=(0,1):=by decide+kernel
 rw[e,Nat.zero_mul]at h;exact h
def QOf(q:Rat):World->Value->Prop:=fun w v=>∃u,v= .tuple #[u,.int .i64 0]/\jN w u q
def zOu(a b:Nat)(T:Array Value)(w:World):World:=
 match T[a]?,T[b]? with
 |some (.pointer (some ⟨g,o,none⟩)),some (.agg #[x,y,z,u])=>(((w.setCell ⟨g,o,none⟩ x).setCell ⟨g,o+1,none⟩ y).setCell ⟨g,o+2,none⟩ z).setCell ⟨g,o+3,none⟩ u
 |_,_=>w
theorem zGJ{a b g o:Nat}{T:Array Value}{w:World}{x y z u:Value}(h1:T[a]?=some (.pointer (some ⟨g,o,none⟩)))(h2:T[b]?=some (.agg #[x,y,z,u])):zOu a b T w=(((w.setCell ⟨g,o,none⟩ x).setCell ⟨g,o+1,none⟩ y).setCell ⟨g,o+2,none⟩ z).setCell ⟨g,o+3,none⟩ u:=by
 unfold zOu;rw[h1,h2];rfl
theorem zI3{a b c:Nat}{T:Array Value}{w:World}{v:Value}(h1:c≠a)(h2:c≠b):zOu a b (T.setIfInBounds c v) w=zOu a b T w:=by
 unfold zOu;rw[xgc h1,xgc h2]
theorem zAS.only{S:List Nat}{w w':World}{b:Nat}{ps:List (Int × Int)}(h:zAS w b ps)(k:qU S w w')(hb:b ∉ S):zAS w' b ps:=h.old (k.old b h.lt hb) k.lext
def zPK(R C:Nat)(s:BE)(e:Ending)(w':World):Prop:=
 (∃i yv,s.pv.length<=i/\i<C/\s.E i R≠0/\e= .returned (.tuple #[.slice none 0 0,yv,.bool false])/\jY w' yv (zAC C fun t=>prQ (Rat.divInt (s.E i (R+1+t)) (s.E i R))))∨
 (∃xv,(∀i,s.pv.length<=i->i<C->s.E i R=0)/\e= .returned (.tuple #[xv,.slice none 0 0,.bool true])/\jY w' xv (zAC R fun i=>prQ (zE7 s R s.pv.length i)))
theorem zFG{e:Nat}(v bv:Value)(R C:Nat)(M:List (List Int))(y:Nat->Int)(w:World)(h:jE w v R C M)(hF:jT R C M)(hb:qN w bv (zM C y))(hR:R<=1000)(hC:C<=1000)(hC1:1<=C)(he:2*e+1<=1000000)
  (hS:∀c,c<=R->(zAi C (eqL R (ent M) y) c).pv.length<=C/\(zAi C (eqL R (ent M) y) c).last≠0/\(zAi C (eqL R (ent M) y) c).last.natAbs<2^e/\∀i,i<C->∀j,j<R+1+C->((zAi C (eqL R (ent M) y) c).E i j).natAbs<2^e)
  (hP:∀k t,(zAi C (eqL R (ent M) y) R).pv[k]?=some t->t<R/\(zAi C (eqL R (ent M) y) R).E k t≠0):
  Calls Tryz.prog 161 #[v,bv] w fun e w'=>zPK R C (zAi C (eqL R (ent M) y) R) e w'/\Below w.heap.size w w':=by
 obtain⟨A,rfl,hrw⟩:=id h;obtain⟨ao,n,acap,rfl,e2,e3,e4,-⟩:=id hrw;obtain rfl:n=R:=by rw[<-e2,hF.1]
 obtain⟨bo,bn,bc,rfl,f2,f3,f4,-⟩:=id hb;obtain rfl:C=bn:=by rw[<-f2,zD]
 have HM:=xgv h;have HRW:=xgv hrw;have HF:=xgv hF;have HBV:=xgv hb;have HS:=xgv hS;have HP:=xgv hP;obtain⟨L,hL⟩:∃L,eqL n (ent M) y=L:=⟨_,rfl⟩;have HL:=xgv hL;rw[hL]at HS HP ⊢
 have hSn:=HS.out n (xgf _);obtain⟨S,hSe⟩:∃S,zAi C L n=S:=⟨_,rfl⟩;rw[hSe]at HP hSn ⊢
 have HSE:=xgv hSe;have HSN:=xgv hSn;clear hSn hSe;have hmk:=fun W=>mkR (C:Int) C rfl oM W
 have hmi:=fun W=>mkI ((n:Int)+1+(C:Int)) (n+1+C) oM oM W
 obtain⟨m,hm⟩:∃m,n+1+C=m:=⟨_,rfl⟩;rw[hm]at HS hmi;have HMM:=xgv hm;clear h hrw hF hb hS hP e2 f2 hL hm;go_enter Tryz.func161,Tryz.ntmps161;go_upto_region 1 with(fail)
 refine zB ?_;intro W0 hW0;obtain⟨hB0,T2,hs0⟩:=zK hW0;obtain⟨c1,c2,c3,c4,c5,c6⟩:=T2.three;clear hW0;go_wp2_with fail
 refine(zOj _ n C M W0 (HM.out.below hB0) HF.out).mono ?_;rintro e' w1 ⟨_,rfl,rfl,hb1⟩;have T2:=T2.below hb1;have hB:=nx hB0 hb1;clear c1 c2 c3 c4 c5 c6;obtain⟨c1,c2,c3,c4,c5,c6⟩:=T2.three;go_upto_region 4 with(fail)
 refine zB ?_;intro W2 hW2;have hb2:Below w1.heap.size w1 W2:=by rw[hW2.out];exact(Below.refl _ _).alloc (xgf _) _
 have hH:zIX W2 w1.heap.size 0 C m L:=by
  rw[hW2.out];exact⟨_,Blk.new _ _ _,by simp[madeCells],fun i hi=>by omega⟩
 have q1:=hB.size;have q0:=hB0.size;have lt0:=(T2.lt:w.heap.size<_);have T2:=T2.below hb2;have hB:=nx hB hb2;clear hW2 c1 c2 c3 c4 c5 c6 hb2;obtain⟨bq,hbq⟩:∃g,w1.heap.size=g:=⟨_,rfl⟩;rw[hbq]at hH q1 lt0 ⊢
 clear hbq;go_wp2;go_loopw [33] (fun iv wr=>∃j:Nat,j<=C/\iv= .int .i64 j/\Below w.heap.size w wr/\Blk wr w.heap.size 28 #[.int .i64 n,.int .i64 C,.slice ao n acap]/\zIX wr bq j C m L) (fun iv _=>C-(intOf iv).toNat)
 case atStart=>exact⟨0,by omega,rfl,hB,T2,hH⟩
 case round=>
  clear hB T2 hH;obtain⟨j,hj,rfl,hB,T2,hH⟩:=hrel;obtain⟨c1,c2,c3,c4,c5,c6⟩:=T2.three;by_cases hlt:j<C
  ·have qr:=hB.size
   have ltw:=T2.lt;have lq:=hH.lt;have mm:=HMM.out;go_upto_region 8 with(fail)
   refine zB ?_;intro W3 hW3;have hb3:Below wr.heap.size wr W3:=by rw[hW3.out];exact(Below.refl _ _).alloc (xgf _) _
   have hr:qC W3 wr.heap.size (zM m (qA (fun i=>ent M i j) (fun _=>0) 0)):=by
    rw[zCO,hW3.out];obtain⟨_,h1,-,h2⟩:=zCR (w:=wr) (lo:=0) (n:=m) (Nat.zero_le _);injection h1 with h1
    injection h1 with h1
    injection h1 with h1
    rw[h1];exact h2
   have T2:=T2.below hb3;have hB:=nx hB hb3;have q3:=hb3.size;clear hW3 c1 c2 c3 c4 c5 c6;have HB3:=xgv hb3;obtain⟨lb,hlb⟩:∃g,wr.heap.size=g:=⟨_,rfl⟩;have HLB:=xgv hlb;rw[hlb]at hr qr lq ltw ⊢
   clear hlb hb3;obtain⟨c1,c2,c3,c4,c5,c6⟩:=T2.three;go_wp2;clear c1 c2 c3 c4 c5 c6;go_loopw [46] (fun iv wt=>∃i:Nat,i<=n/\iv= .int .i64 i/\qU [lb] W3 wt/\qC wt lb (zM m (qA (fun i=>ent M i j) (fun _=>0) i))) (fun iv _=>n-(intOf iv).toNat)
   case atStart=>exact⟨0,by omega,rfl,qU.refl _ _,hr⟩
   case round=>
    rename World=>ws
    clear hr;obtain⟨i,hi,rfl,ho,hr⟩:=hrel;have hBt:Below w.heap.size w ws:=Below.only hB ho (xgf _) (fun g hg=>by simp at hg;omega);have T2:=T2.only ho (by simp;omega);obtain⟨c1,c2,c3,c4,c5,c6⟩:=T2.three;have ltb:=hr.lt;by_cases hin:i<n
    ·obtain⟨rb,ra,rn,rc,zs,e1,hbl,hz,p1,hv⟩:=HRW.out.row (k:=i) (by rw[HF.out.1];exact hin)
     obtain rfl:=HF.out.row_eq hz;have hrl:=hv.len.1;obtain rfl:rn=C:=by rw[<-hrl];exact HF.out.2 _ (xgd hz)
     obtain⟨eb,z,s1,a1,l1,k1,rfl,heb,hze,z1,z2,hzv⟩:=hv.cell (k:=j) (by rw[HF.out.2 _ (xgd hz)];exact hlt);have hent:=zBE hz hze;have p1:=zI p1 hBt;have z1:=zI z1 hBt;have z2:=zI z2 hBt;have HZV:=xgv (hzv.ext (lx hBt));obtain⟨_,_,_,_,o1,o2,o3,o4,-⟩:=hr.cell (k:=i) (zP (by have:=HMM.out;omega));have hset:=hr.set (k:=i) (by rw[zD];have:=HMM.out;omega) HZV.out;rw[<-hent,zDI (fun i=>ent M i j)]at hset;have HSET:=xgv hset;subst e1;clear hv hz hze hzv hent hset hrl;go_wp2;go_roundw
     case rel=>exact⟨i+1,by omega,by simp,ho.trans (zEB HSET.out.2),HSET.out.1⟩
     case measure=>simp[intOf];omega
    ·obtain rfl:i=n:=by omega
     have mm:=HMM.out;obtain⟨yb,z,s1,a1,l1,k1,rfl,hyb,hze,y1,y2,hzv⟩:=HBV.out.cell (k:=j) (by rw[zD];exact hlt);rw[zP hlt]at hze;injection hze with hze
     subst hze;have y1:=zI y1 hBt;have y2:=zI y2 hBt;have HZV:=xgv (hzv.ext (lx hBt));have lt2:=T2.lt;have lt5:=hBt.size;clear hzv;go_upto_region 13 with(fail)
     refine zC 7 rfl (RV ws _ [VSl 0 59 lb m m,VP 1 60 w.heap.size 0,VN 2 61 i,VSl 3 62 yb C bc,VN 4 63 j,VP 5 64 yb (j*2),E 6 65 (.agg #[.bool s1,.slice a1 l1 k1])]) kR RV.start (RV.fin kR ?fin1) ?steps1
     case steps1=>
      (repeat' constructor)<;>(intro L T wS hL hd hcl hI K hK;try refine zA rfl ?_)
      ·exact xgs (hI.k 9 rfl kR)
      ·exact xgs (hI.k 2 rfl kR)
      ·have zt1:=hI.e mm1 (hd 1)
       have cc0:=hI.cell c1;exact xgu
      ·exact xgs (hI.k 1 rfl kR)
      ·exact xgs (hI.k 8 rfl kR)
      ·exact xgt (hI.e mm3 (hd 3)) (hI.e mm4 (hd 4))
      ·have zt5:=hI.e mm5 (hd 5)
       have cc0:=hI.cell y1;have cc1:=hI.cell y2;exact xgu
     intro wx hbwx T hT;simp only[Fin,E,EI,VP,VSl,VN,xgg,xgh,xgi,xgj]at hT;subst hT;simp only[xgl,xgk];have hr:=hr.below hbwx;have T2:=T2.below hbwx;have ho:=ho.trans (qU.of [lb] hbwx);have hzx:=HZV.out.ext (lx hbwx);obtain⟨_,_,_,_,o1,o2,o3,o4,-⟩:=hr.cell (k:=i) (zP oM);have hset:=hr.set (k:=i) (by rw[zD];omega) hzx;have qx:=hbwx.size;have ho:=ho.trans (zEB hset.2);have T2:Blk ((wx.setCell ⟨lb,i*2,none⟩ (.bool s1)).setCell ⟨lb,i*2+1,none⟩ (.slice a1 l1 k1)) w.heap.size 28 #[.int .i64 i,.int .i64 C,.slice ao i acap]:=(zV wx lb (i*2) (i*2+1) w.heap.size _ _ oM).trans T2;have hr:=hset.1;clear hset c1 c2 c3 c4 c5 c6 y1 y2 hzx;go_upto_region 14 with(fail)
     generalize (wx.setCell ⟨lb,i*2,none⟩ (.bool s1)).setCell ⟨lb,i*2+1,none⟩ (.slice a1 l1 k1)=W5 at ho hr T2 ⊢
     obtain⟨c1,c2,c3,c4,c5,c6⟩:=T2.three;have lt6:=T2.lt;have hw1:IntKind.i64.wrap ((i:Int)+1)=(i:Int)+1:=IntWalk.i64_in _ oM;have hw2:IntKind.i64.wrap ((i:Int)+1+(j:Int))=(i:Int)+1+(j:Int):=IntWalk.i64_in _ oM;refine zC 7 rfl (RV W5 _ [VSl 0 67 lb m m,VP 1 68 w.heap.size 0,VN 2 69 i,E 3 70 (.int .i64 (i+1)),VN 4 71 j,E 5 72 (.int .i64 (i+1+j)),EI 6 73 (1)]) kR RV.start (RV.fin kR ?fin2) ?steps2
     case steps2=>
      (repeat' constructor)<;>(intro L T wS hL hd hcl hI K hK;try refine zA rfl ?_)
      ·exact xgs (hI.k 9 rfl kR)
      ·exact xgs (hI.k 2 rfl kR)
      ·have zt1:=hI.e mm1 (hd 1)
       have cc0:=hI.cell c1;exact xgu
      ·exact xgs (hI.e mm2 (hd 2))
      ·exact xgs (hI.k 8 rfl kR)
      ·exact xgt (hI.e mm3 (hd 3)) (hI.e mm4 (hd 4))
      ·go_simp
       refine(zBK 1 _ dE dE).mono ?_;exact xgo
     intro wz hbwz T hT;simp only[Fin,E,EI,VP,VSl,VN,xgg,xgh,xgi,xgj]at hT;obtain⟨vb6,hb6,rfl⟩:=hT;simp only[xgl,xgk];obtain⟨us,ua,ul,uc,rfl⟩:=(show zH _ _ _ from hb6).parts;have hr:=hr.below hbwz;have T2:=T2.below hbwz;have ho:=ho.trans (qU.of [lb] hbwz);have qz:=hbwz.size;obtain⟨zz,hzz⟩:∃z,((zM m (qA (fun i=>ent M i j) (fun _=>0) i)).set i (y j))[i+1+j]?=some z:=⟨_,xga (by rw[List.length_set,zD];omega)⟩;obtain⟨_,_,_,_,o1,o2,o3,o4,-⟩:=hr.cell (k:=i+1+j) hzz;have hset:=hr.set (k:=i+1+j) (by rw[List.length_set,zD];omega) (show zH _ _ _ from hb6);have ho:=ho.trans (zEB hset.2);have T2:Blk ((wz.setCell ⟨lb,(i+1+j)*2,none⟩ (.bool us)).setCell ⟨lb,(i+1+j)*2+1,none⟩ (.slice ua ul uc)) w.heap.size 28 #[.int .i64 i,.int .i64 C,.slice ao i acap]:=(zV wz lb ((i+1+j)*2) ((i+1+j)*2+1) w.heap.size _ _ oM).trans T2;have hr:=hset.1;have hrl:=hr;rw[<-HMM.out,zMw hlt,HL.out,HMM.out]at hr;clear hset c1 c2 c3 c4 c5 c6 hb6 hrl;go_upto_region 15 with(fail)
     refine zB ?_;intro W6 hW6;rw[<-hW6.out]at ho hr T2;clear hW6;have hlb:=HLB.out;have hH6:=hH.below (Below.only HB3.out ho (xgf _) (fun g hg=>by simp at hg;omega));have hB6:Below w.heap.size w W6:=Below.only hB ho (xgf _) (fun g hg=>by simp at hg;omega);obtain⟨⟨u,b1⟩,b2⟩:=hH6.facts hlt;have hvl:=hr.vec (zD _ _) (xgf _) (by omega:m<=9223372036854775807);have hput:=hH6.put hlt hvl;have HPUT:=xgv hput;have q6:=hB6.size;clear hvl hput hr;go_wp2;go_roundw
     case rel=>exact⟨j+1,by omega,by simp,zO hB6 oM _ _,(zU W6 bq j w.heap.size _ oM).trans T2,HPUT.out.1⟩
     case measure=>simp[intOf];omega
  ·obtain rfl:C=j:=by omega
   have hmn:n<=m:=by have:=HMM.out;omega
   have lt3:=T2.lt;have qq:=hB.size;go_wp2_with fail
   refine(zMH (e:=e) bq C m C n L wr hH.full (xgf _) oM oM hC1 (by have:=HMM.out;omega) hmn he HS.out).mono ?_;rintro e' w4 ⟨be,rfl,hbe,hb4⟩;have T2:=T2.below hb4;have hB:=nx hB hb4;rw[HSE.out]at hbe;obtain⟨bh,cap,ln,la,ll,lc,pv,h1,h2,h3,h4,h5,h6,h7,h8,h9⟩:=hbe.ex;obtain⟨po,pcap,rfl,p1,p2,p3⟩:=h9.at_;have HH:=xgv h7;have HNA:=xgv p3;have d1:=h1.cell 0;have d5:=h1.cell 4;obtain⟨k,hk⟩:∃k,S.pv.length=k:=⟨_,rfl⟩;have HK:=xgv hk;rw[hk]at d5 p1 h1;have HB1:=xgv h1;have hkC:k<=C:=by have:=HSN.out.1;omega
   clear hbe h1 h7 h8 h9 p3 hk hH c1 c2 c3 c4 c5 c6;obtain⟨c1,c2,c3,c4,c5,c6⟩:=T2.three;go_upto_region 18 with(fail)
   refine zE rfl (RV w4 _ [VP 0 84 be 0,VP 1 85 be 0,VP 2 86 be 0,VP 3 87 be 0,VSl 4 88 bh C cap,VP 5 89 be 0,VP 6 90 be 0,VP 7 91 be 4,E 8 92 (.slice po k pcap),VN 9 93 k,E 10 94 (.slice (if cap=k then some ⟨bh,0,none⟩else some ⟨bh,k,none⟩) (C-k) (cap-k)),E 11 95 (.int .i64 ((C-k:Nat):Int)),VN 12 96 0]) kR RV.start (RV.fin kR ?fin3) ?steps3
   case steps3=>
    (repeat' constructor)<;>(intro L T wS hL hd hcl hI K hK;try refine zA rfl ?_)
    ·exact xgs (hI.k 12 rfl kR)
    ·exact xgs (hI.e mm0 (hd 0))
    ·exact xgs (hI.e mm1 (hd 1))
    ·exact xgs (hI.e mm2 (hd 2))
    ·have zt3:=hI.e mm3 (hd 3)
     have cc0:=hI.cell d1;exact xgu
    ·exact xgs (hI.k 12 rfl kR)
    ·exact xgs (hI.e mm5 (hd 5))
    ·exact xgs (hI.e mm6 (hd 6))
    ·have zt7:=hI.e mm7 (hd 7)
     have cc0:=hI.cell d5;exact xgu
    ·exact xgs (hI.e mm8 (hd 8))
    ·exact xgt (hI.e mm4 (hd 4)) (hI.e mm9 (hd 9))
    ·exact xgs (hI.e zAB (hd 10))
    ·go_simp
     exact hK _ _ (hI.q zAs)
   intro w5 hbw5 T hT;simp only[Fin,E,EI,VP,VSl,VN,xgg,xgh,xgi,xgj]at hT;subst hT;have hB:=nx hB hbw5;have T2:=T2.below hbw5;have HH:=xgv (HH.out.below hbw5);have HB1:=xgv (HB1.out.below hbw5);have HNA:=xgv (HNA.out.below hbw5);clear c1 c2 c3 c4 c5 c6 d1 d5;obtain⟨sa,hsa⟩:∃sa:Option Addr,(if cap=k then some ⟨bh,0,none⟩else some ⟨bh,k,none⟩)=sa:=⟨_,rfl⟩;have HSA:qE (k<C->sa=some ⟨bh,k,none⟩):=⟨fun h=>by rw[<-hsa,if_neg oM]⟩;rw[hsa];clear hsa;go_wp2;go_loopw [96] (fun iv wr=>∃i:Nat,i<=C-k/\iv= .int .i64 i/\Below w5.heap.size w5 wr/\qE (∀a,k<=a->a<k+i->S.E a n=0)) (fun iv _=>(C-k)-(intOf iv).toNat)
   case atStart=>exact⟨0,by omega,rfl,Below.refl _ _,⟨fun a h1 h2=>by omega⟩⟩
   case round=>
    rename World=>ws
    obtain⟨i,hi,rfl,hb,hz⟩:=hrel;have T2:=T2.below hb;obtain⟨c1,c2,c3,c4,c5,c6⟩:=T2.three;by_cases hin:i<C-k
    ·have hck:¬ cap=k:=by omega
     have hnm:n<m:=by have:=HMM.out;omega
     obtain⟨ro,rc,p3,p4,hvr⟩:=(HH.out.below hb).row (i:=k+i) oM;obtain⟨rb,z,s1,a1,l1,k1,rfl,zl,hze,z1,z2,hzv⟩:=hvr.cell (k:=n) (by rw[zD];have:=HMM.out;omega);rw[zP (by have:=HMM.out;omega)]at hze;injection hze with hze
     obtain⟨kz,hkz⟩:∃k,qJ z 0=k:=⟨_,rfl⟩;have HSG:qE (∀(v:Value) (w:World),zH w v z->Calls Tryz.prog 160 #[v] w fun e w'=>e= .returned (.int .i64 kz)/\Below w.heap.size w w'):=⟨fun v w hv=>hkz ▸ qV v z w hv.weak⟩;have HKZ:qE (kz=0↔z=0):=⟨by rw[<-hkz];exact zCx⟩;have HZE:=xgv hze;have HZV:=xgv hzv;have HVR:=xgv hvr;clear hze hzv hkz hvr;obtain rfl:=HSA.out oM;go_wp2_with fail
     refine(HSG.out _ ws HZV.out).mono ?_;rintro e' w6 ⟨rfl,hb6⟩;by_cases hz0:z=0
     ·have hk0:=HKZ.out.2 hz0
      subst hk0;have hzz:qE (∀a,k<=a->a<k+(i+1)->S.E a n=0):=⟨fun a g1 g2=>by
       rcases Nat.lt_or_ge a (k+i)with h|h
       ·exact hz.out a g1 h
       ·obtain rfl:a=k+i:=by omega
        exact HZE.out.trans hz0⟩
      clear hz0 HKZ;go_wp2;go_roundw
      case rel=>exact⟨i+1,by omega,by simp,nx hb hb6,hzz⟩
      case measure=>simp[intOf];omega
     ·have hk0:kz≠0:=fun h=>hz0 (HKZ.out.1 h)
      have hk0':(kz !=0)=true:=by simpa using hk0
      have hvl:=HVR.out.len;rw[zD]at hvl;have mm:=HMM.out;have T2:=T2.below hb6;have z1:=zI z1 hb6;have z2:=zI z2 hb6;have HZ6:=xgv (HZV.out.ext (lx hb6));have HRA:qE (qC w6 rb (zM m (S.E (k+i)))):=⟨by
       obtain⟨_,_,_,g1,-,-,-,g5⟩:=HVR.out.below hb6;injection g1 with g1
       obtain⟨b',g6,g7⟩:=g5 (fun h=>by have:=congrArg List.length h;rw[zD]at this;simp at this;omega);rw[<-g1]at g6;injection g6 with g6
       injection g6 with g6
       rw[g6];exact g7⟩
      have HOV:qE (∀W,Below w6.heap.size w6 W->Calls Tryz.prog 231 #[.slice (some ⟨rb,(n+1)*2,none⟩) (m-(n+1)) (rc-(n+1)),.agg #[.bool s1,.slice a1 l1 k1]] W fun e w'=>∃v,e= .returned v/\jY w' v (zAC C fun t=>prQ (Rat.divInt (S.E (k+i) (n+1+t)) (S.E (k+i) n)))/\Below W.heap.size W w'):=⟨fun W hW=>by
       rw[HZE.out,show m-(n+1)=C by omega];refine(zIy (e:=e) rb (n+1) C (rc-(n+1)) _ (fun t=>S.E (k+i) (n+1+t)) _ z W (HRA.out.below hW) (fun t ht=>zP oM) (HZ6.out.ext (lx hW)) hz0 oM (by rw[<-HZE.out];exact HSN.out.2.2.2 (k+i) oM n oM) (fun t ht=>HSN.out.2.2.2 (k+i) oM _ oM) oM).mono ?_;rintro e' w' ⟨g,rfl,-,hp,hb⟩;exact⟨_,rfl,hp.prs (qG _ _) (xgf _) oM,hb⟩⟩
      have hw1:IntKind.i64.wrap ((n:Int)+1)=(n:Int)+1:=IntWalk.i64_in _ oM;have hrc:¬ rc=n+1:=by omega
      have hg1:(0:Int)<=(n:Int)+1:=by omega
      have hg2:(n:Int)+1<=(m:Int):=by omega
      have hl1:qK (fun w v=>jY w v (zAC C fun t=>prQ (Rat.divInt (S.E (k+i) (n+1+t)) (S.E (k+i) n)))):=fun _ _ _ x h=>h.below x
      have hbz:=HZE.out;clear c1 c2 c3 c4 c5 c6 HZE;obtain⟨c1,c2,c3,c4,c5,c6⟩:=T2.three;go_upto_region 22 with(fail)
      refine zE rfl (RV w6 _ [VSl 0 107 rb m rc,VP 1 108 w.heap.size 0,VN 2 109 n,E 3 110 (.int .i64 (n+1)),E 4 111 (.slice (some ⟨rb,(n+1)*2,none⟩) (m-(n+1)) (rc-(n+1))),VSl 5 112 rb m rc,VP 6 113 w.heap.size 0,VN 7 114 n,VP 8 115 rb (n*2),E 9 116 (.agg #[.bool s1,.slice a1 l1 k1]),⟨10,117,fun w v=>jY w v (zAC C fun t=>prQ (Rat.divInt (S.E (k+i) (n+1+t)) (S.E (k+i) n)))⟩,E 11 4 (.slice none 0 0),⟨12,5,fun w v=>jY w v (zAC C fun t=>prQ (Rat.divInt (S.E (k+i) (n+1+t)) (S.E (k+i) n)))⟩,E 13 6 (.bool false)]) kR RV.start (RV.fin kR ?fin4) ?steps4
      case steps4=>
       (repeat' constructor)<;>(intro L T wS hL hd hcl hI K hK;try refine zA rfl ?_)
       ·exact xgs (hI.k 14 rfl kR)
       ·exact xgs (hI.k 2 rfl kR)
       ·have zt1:=hI.e mm1 (hd 1)
        have cc0:=hI.cell c1;exact xgu
       ·exact xgs (hI.e mm2 (hd 2))
       ·exact xgt (hI.e mm0 (hd 0)) (hI.e mm3 (hd 3))
       ·exact xgs (hI.k 14 rfl kR)
       ·exact xgs (hI.k 2 rfl kR)
       ·have zt6:=hI.e mm6 (hd 6)
        have cc0:=hI.cell c1;exact xgu
       ·exact xgt (hI.e mm5 (hd 5)) (hI.e mm7 (hd 7))
       ·have zt8:=hI.e mm8 (hd 8)
        have cc0:=hI.cell z1;have cc1:=hI.cell z2;exact xgu
       ·have zt4:=hI.e mm4 (hd 4)
        have zt9:=hI.e mm9 (hd 9);go_simp;refine(HOV.out _ hI.bel).mono ?_;rintro e wa ⟨v,rfl,hv,hba⟩;exact hK _ _ ((hI.world hba).y zAB hv)
       ·go_simp
        exact hK _ _ (hI.q zAG)
       ·obtain⟨v10,zt10,h10⟩:=hI.v zAB (hd 10)
        go_simp;exact hK _ _ (hI.y zAs h10)
       ·go_simp
        exact hK _ _ (hI.q zCS)
      intro w7 hbw7 T hT;simp only[Fin,E,EI,VP,VSl,VN,xgg,xgh,xgi,xgj]at hT;obtain⟨vr10,hr10,vr12,hr12,rfl⟩:=hT;go_wp2;refine bodyPost_ret (zCq rfl _ _ _) rfl ?_;refine⟨.inl ⟨k+i,vr12,by rw[HK.out];omega,by omega,by rw[hbz];exact hz0,rfl,hr12⟩,nx hB (nx (nx hb hb6) hbw7)⟩
    ·obtain rfl:i=C-k:=by omega
     have hzz:qE (∀a,S.pv.length<=a->a<C->S.E a n=0):=⟨fun a h1 h2=>hz.out a (by rw[<-HK.out];exact h1) oM⟩;have hB:=nx hB hb;have HH:=xgv (HH.out.below hb);have HB1:=xgv (HB1.out.below hb);have HNA:=xgv (HNA.out.below hb);clear hz HSA;have hmz:=fun W=>mkI (n:Int) n rfl oM W
     have hl1:=zCk ws.heap.size n;have hl2:qK (zMC ws.heap.size n fun _=>(0,1)):=fun _ _ _ x ⟨g,h1,h2,h3⟩=>⟨g,h1,h2,h3.below x⟩
     have lt7:=T2.lt;go_upto_region 24 with(fail)
     refine zE rfl (RV ws _ [VP 0 119 w.heap.size 0,VN 1 120 n,⟨2,121,zMG ws.heap.size n⟩,EI 3 122 (1),⟨4,123,zMC ws.heap.size n fun _=>(0,1)⟩,⟨5,15,zMC ws.heap.size n fun _=>(0,1)⟩]) kR RV.start (RV.fin kR ?fin5) ?steps5
     case steps5=>
      (repeat' constructor)<;>(intro L T wS hL hd hcl hI K hK;try refine zA rfl ?_)
      ·exact xgs (hI.k 2 rfl kR)
      ·have zt0:=hI.e mm0 (hd 0)
       have cc0:=hI.cell c1;exact xgu
      ·obtain⟨_,zt1,rfl⟩:=hI.v mm1 (hd 1)
       go_simp;exact hK _ _ ((hI.world ((Below.refl _ _).alloc (xgf _) _)).y mm2 (zCR hI.bel.size))
      ·go_simp
       refine(zBK 1 _ dE dE).mono ?_;exact xgo
      ·obtain⟨v2,zt2,hv2⟩:=hI.v mm2 (hd 2)
       obtain⟨v3,zt3,hv3⟩:=hI.v mm3 (hd 3);obtain⟨zb,rfl,-,hzr⟩:=hv2;go_simp;refine(zQQ zb n v3 wS hzr hv3 oM).mono ?_;rintro e' wa ⟨g,rfl,hg,hp,hba⟩;exact hK _ _ ((hI.world hba).y mm4 ⟨g,rfl,Nat.le_trans hI.bel.size hg,hp⟩)
      ·obtain⟨v4,zt4,h4⟩:=hI.v mm4 (hd 4)
       go_simp;exact hK _ _ (hI.y mm5 h4)
     intro w8 hbw8 T hT;simp only[Fin,E,EI,VP,VSl,VN,xgg,xgh,xgi,xgj]at hT;obtain⟨vx2,hx2,vx3,hx3,vx4,hx4,vx5,hx5,rfl⟩:=hT;obtain⟨g,rfl,hg,hp⟩:=(show zMC _ _ _ _ _ from hx5);have hp0:zAS w8 g (zAC n fun t=>prQ (zE7 S n 0 t)):=hp;have d5:=(HB1.out.below hbw8).cell 4;clear hp hx2 hx3 hx4 hx5 c1 c2 c3 c4 c5 c6;go_wp2;clear d5;go_loopw [129] (fun iv wr=>∃i:Nat,i<=k/\iv= .int .i64 i/\qU [g] w8 wr/\zAS wr g (zAC n fun t=>prQ (zE7 S n i t))) (fun iv _=>k-(intOf iv).toNat)
     case atStart=>exact⟨0,by omega,rfl,qU.refl _ _,hp0⟩
     case round=>
      rename World=>wu
      clear hp0;obtain⟨i,hi,rfl,ho,hp⟩:=hrel;have hbu:Below ws.heap.size ws wu:=Below.only hbw8 ho (xgf _) (fun g' hg'=>by simp at hg';omega);have T2:=T2.below hbu;by_cases hik:i<k
      ·obtain⟨t,ht⟩:∃t,S.pv[i]?=some t:=⟨_,xga (by rw[HK.out];exact hik)⟩
       obtain⟨htn,htz⟩:=HP.out i t ht;obtain⟨pb,poff,pcs,rfl,n1,n2⟩:=(HNA.out.below hbu).2 (by intro e;rw[e]at ht;simp at ht);have pc:wu.cell? ⟨pb,poff+i,none⟩=some (.int .i64 t):=(cell_of_row wu pb (poff+i) pcs tNn _ n1).trans (n2 i t ht);obtain⟨ro,rc,q1,q2,hvr⟩:=(HH.out.below hbu).row (i:=i) oM;have nm:n<m:=by have:=HMM.out;omega
       obtain⟨rb,z,s1,a1,l1,k1,rfl,zl,hze,x1,x2,hzv⟩:=hvr.cell (k:=n) (by rw[zD];exact nm);obtain⟨rb',u,s2,a2,l2,k2,e2,-,hue,y1,y2,huv⟩:=hvr.cell (k:=t) (by rw[zD];omega);injection e2 with e2
       injection e2 with e2
       subst e2;rw[zP nm]at hze;rw[zP oM]at hue;injection hze with hze
       injection hue with hue
       subst hze hue;have ZV:=xgv hzv;have UV:=xgv huv;obtain⟨Q,hQ⟩:∃Q:Rat,Rat.divInt (S.E i n) (S.E i t)=Q:=⟨_,rfl⟩;have HOF:qE (∀(v1 v2:Value) (w:World),zH w v1 (S.E i n)->zH w v2 (S.E i t)->Calls Tryz.prog 232 #[v1,v2] w fun e w'=>∃v,e= .returned v/\QOf Q w' v/\Below w.heap.size w w'):=⟨fun v1 v2 w k1 k2=>by
        rw[<-hQ];refine(zLb v1 v2 _ _ w k1 k2 (qL (HSN.out.2.2.2 i oM n oM) oM) (qL (HSN.out.2.2.2 i oM t oM) oM) htz).mono ?_;rintro e' w' ⟨v,rfl,h1,h2⟩;exact⟨_,rfl,⟨v,rfl,h1⟩,h2⟩⟩
       have HQE:qE (∀a,prQ (zE7 S n (i+1) a)=if a=t then prQ Q else prQ (zE7 S n i a)):=⟨fun a=>by
        show prQ (if S.pv[i]?=some a then(S.E i n:Rat)/S.E i a else zE7 S n i a)=_;rw[ht];by_cases e:a=t
        ·subst e
         rw[if_pos rfl,if_pos rfl,<-hQ,Rat.divInt_eq_div]
        ·rw[if_neg (fun h=>e (by injection h with h;exact h.symm)),if_neg e]⟩
       have d1:=(HB1.out.below hbu).cell 0;have lt8:=T2.lt;have ltg:=hp.lt;have ltb:=(HB1.out.below hbu).lt;have lth:=(HH.out.below hbu).lt;have hiC:i<C:=by omega
       have htm:t<m:=by omega
       have hl3:qK (QOf Q):=fun _ _ _ x ⟨v,h1,h2⟩=>⟨v,h1,h2.below x⟩
       have hl4:qK (fun _ _=>True):=fun _ _ _ _ _=>trivial
       have hl5:=qY Q;obtain⟨c1,c2,c3,c4,c5,c6⟩:=T2.three;clear hzv huv hvr hQ ht htz n1 n2;go_upto_region 28 with(fail)
       refine zE rfl (RAS ([]) 99 wu _ [⟨0,135,fun _ v=>v= .slice (some ⟨g,0,none⟩) n n⟩,⟨1,136,fun _ v=>v= .int .i64 t⟩,⟨2,137,fun _ v=>v= .pointer (some ⟨be,0,none⟩)⟩,⟨3,138,fun _ v=>v= .pointer (some ⟨be,0,none⟩)⟩,⟨4,139,fun _ v=>v= .pointer (some ⟨be,0,none⟩)⟩,⟨5,140,fun _ v=>v= .pointer (some ⟨be,0,none⟩)⟩,⟨6,141,fun _ v=>v= .slice (some ⟨bh,0,none⟩) C cap⟩,⟨7,142,fun _ v=>v= .int .i64 i⟩,⟨8,143,fun _ v=>v= .pointer (some ⟨bh,i,none⟩)⟩,⟨9,144,fun _ v=>v= .slice (some ⟨rb,0,none⟩) m rc⟩,⟨10,145,fun _ v=>v= .pointer (some ⟨w.heap.size,0,none⟩)⟩,⟨11,146,fun _ v=>v= .int .i64 n⟩,⟨12,147,fun _ v=>v= .pointer (some ⟨rb,n*2,none⟩)⟩,⟨13,148,fun _ v=>v= .agg #[.bool s1,.slice a1 l1 k1]⟩,⟨14,149,fun _ v=>v= .pointer (some ⟨be,0,none⟩)⟩,⟨15,150,fun _ v=>v= .pointer (some ⟨be,0,none⟩)⟩,⟨16,151,fun _ v=>v= .pointer (some ⟨be,0,none⟩)⟩,⟨17,152,fun _ v=>v= .pointer (some ⟨be,0,none⟩)⟩,⟨18,153,fun _ v=>v= .slice (some ⟨bh,0,none⟩) C cap⟩,⟨19,154,fun _ v=>v= .int .i64 i⟩,⟨20,155,fun _ v=>v= .pointer (some ⟨bh,i,none⟩)⟩,⟨21,156,fun _ v=>v= .slice (some ⟨rb,0,none⟩) m rc⟩,⟨22,157,fun _ v=>v= .int .i64 t⟩,⟨23,158,fun _ v=>v= .pointer (some ⟨rb,t*2,none⟩)⟩,⟨24,159,fun _ v=>v= .agg #[.bool s2,.slice a2 l2 k2]⟩,⟨25,160,QOf Q⟩,⟨26,134,QOf Q⟩,⟨27,161,fun w v=>jN w v Q⟩,⟨28,162,fun _ v=>v= .int .i64 0⟩,⟨29,163,fun _ v=>v= .pointer (some ⟨g,t*4,none⟩)⟩] 30 (zOu 163 161)) kR (RAS.start (RA.start kR (by repeat' (first|exact yL _|exact jC _|exact jD _ _ _|exact qZ _|assumption|refine xgm.2 ⟨?_,?_⟩|exact xgn _)))) ?fin6 ?steps6
       case steps6=>
        refine⟨?_,?_,?_,?_,?_,?_,?_,?_,?_,?_,?_,?_,?_,?_,?_,?_,?_,?_,?_,?_,?_,?_,?_,?_,?_,?_,?_,?_,?_,?_,?_,trivial⟩
        ·refine zF.liftA kR dE ?_
         intro L T wS hL hd hcl hI K hK;try refine zA rfl ?_
         have zt:T[15]?=some (.slice (some ⟨g,0,none⟩) n n):=hI.keep 15 sI;go_simp;exact hK _ _ (hI.y mm0 rfl)
        ·refine zF.liftA kR dE ?_
         intro L T wS hL hd hcl hI K hK;try refine zA rfl ?_
         have zt:T[17]?=some (.int .i64 t):=hI.keep 17 sI;go_simp;exact hK _ _ (hI.y mm1 rfl)
        ·refine zF.liftA kR dE ?_
         intro L T wS hL hd hcl hI K hK;try refine zA rfl ?_
         have zt:T[12]?=some (.pointer (some ⟨be,0,none⟩)):=hI.keep 12 sI;go_simp;exact hK _ _ (hI.y mm2 rfl)
        ·refine zF.liftA kR dE ?_
         intro L T wS hL hd hcl hI K hK;try refine zA rfl ?_
         obtain⟨_,zt2,rfl⟩:=hI.v mm2 (hd 2);go_simp;exact hK _ _ (hI.y mm3 rfl)
        ·refine zF.liftA kR dE ?_
         intro L T wS hL hd hcl hI K hK;try refine zA rfl ?_
         obtain⟨_,zt3,rfl⟩:=hI.v mm3 (hd 3);go_simp;exact hK _ _ (hI.y mm4 rfl)
        ·refine zF.liftA kR dE ?_
         intro L T wS hL hd hcl hI K hK;try refine zA rfl ?_
         obtain⟨_,zt4,rfl⟩:=hI.v mm4 (hd 4);go_simp;exact hK _ _ (hI.y mm5 rfl)
        ·refine zF.liftA kR dE ?_
         intro L T wS hL hd hcl hI K hK;try refine zA rfl ?_
         obtain⟨_,zt5,rfl⟩:=hI.v mm5 (hd 5);have cc0:=hI.cell (sI) oM d1;go_simp;exact hK _ _ (hI.y mm6 rfl)
        ·refine zF.liftA kR dE ?_
         intro L T wS hL hd hcl hI K hK;try refine zA rfl ?_
         have zt:T[16]?=some (.int .i64 i):=hI.keep 16 sI;go_simp;exact hK _ _ (hI.y mm7 rfl)
        ·refine zF.liftA kR dE ?_
         intro L T wS hL hd hcl hI K hK;try refine zA rfl ?_
         obtain⟨_,zt6,rfl⟩:=hI.v mm6 (hd 6);obtain⟨_,zt7,rfl⟩:=hI.v mm7 (hd 7);go_simp;exact hK _ _ (hI.y mm8 rfl)
        ·refine zF.liftA kR dE ?_
         intro L T wS hL hd hcl hI K hK;try refine zA rfl ?_
         obtain⟨_,zt8,rfl⟩:=hI.v mm8 (hd 8);have cc0:=hI.cell (sI) oM q1;go_simp;exact hK _ _ (hI.y mm9 rfl)
        ·refine zF.liftA kR dE ?_
         intro L T wS hL hd hcl hI K hK;try refine zA rfl ?_
         have zt:T[2]?=some (.pointer (some ⟨w.heap.size,0,none⟩)):=hI.keep 2 sI;go_simp;exact hK _ _ (hI.y zAB rfl)
        ·refine zF.liftA kR dE ?_
         intro L T wS hL hd hcl hI K hK;try refine zA rfl ?_
         obtain⟨_,zt10,rfl⟩:=hI.v zAB (hd 10);have cc0:=hI.cell (sI) oM c1;go_simp;exact hK _ _ (hI.y zAG rfl)
        ·refine zF.liftA kR dE ?_
         intro L T wS hL hd hcl hI K hK;try refine zA rfl ?_
         obtain⟨_,zt9,rfl⟩:=hI.v mm9 (hd 9);obtain⟨_,zt11,rfl⟩:=hI.v zAG (hd 11);go_simp;exact hK _ _ (hI.y zAs rfl)
        ·refine zF.liftA kR dE ?_
         intro L T wS hL hd hcl hI K hK;try refine zA rfl ?_
         obtain⟨_,zt12,rfl⟩:=hI.v zAs (hd 12);have cc0:=hI.cell (sI) oM x1;have cc1:=hI.cell (sI) oM x2;go_simp;exact hK _ _ (hI.y zCS rfl)
        ·refine zF.liftA kR dE ?_
         intro L T wS hL hd hcl hI K hK;try refine zA rfl ?_
         have zt:T[12]?=some (.pointer (some ⟨be,0,none⟩)):=hI.keep 12 sI;go_simp;exact hK _ _ (hI.y zBq rfl)
        ·refine zF.liftA kR dE ?_
         intro L T wS hL hd hcl hI K hK;try refine zA rfl ?_
         obtain⟨_,zt14,rfl⟩:=hI.v zBq (hd 14);go_simp;exact hK _ _ (hI.y zCV rfl)
        ·refine zF.liftA kR dE ?_
         intro L T wS hL hd hcl hI K hK;try refine zA rfl ?_
         obtain⟨_,zt15,rfl⟩:=hI.v zCV (hd 15);go_simp;exact hK _ _ (hI.y zDy rfl)
        ·refine zF.liftA kR dE ?_
         intro L T wS hL hd hcl hI K hK;try refine zA rfl ?_
         obtain⟨_,zt16,rfl⟩:=hI.v zDy (hd 16);go_simp;exact hK _ _ (hI.y zEy rfl)
        ·refine zF.liftA kR dE ?_
         intro L T wS hL hd hcl hI K hK;try refine zA rfl ?_
         obtain⟨_,zt17,rfl⟩:=hI.v zEy (hd 17);have cc0:=hI.cell (sI) oM d1;go_simp;exact hK _ _ (hI.y zCl rfl)
        ·refine zF.liftA kR dE ?_
         intro L T wS hL hd hcl hI K hK;try refine zA rfl ?_
         have zt:T[16]?=some (.int .i64 i):=hI.keep 16 sI;go_simp;exact hK _ _ (hI.y zE5 rfl)
        ·refine zF.liftA kR dE ?_
         intro L T wS hL hd hcl hI K hK;try refine zA rfl ?_
         obtain⟨_,zt18,rfl⟩:=hI.v zCl (hd 18);obtain⟨_,zt19,rfl⟩:=hI.v zE5 (hd 19);go_simp;exact hK _ _ (hI.y zEz rfl)
        ·refine zF.liftA kR dE ?_
         intro L T wS hL hd hcl hI K hK;try refine zA rfl ?_
         obtain⟨_,zt20,rfl⟩:=hI.v zEz (hd 20);have cc0:=hI.cell (sI) oM q1;go_simp;exact hK _ _ (hI.y zE0 rfl)
        ·refine zF.liftA kR dE ?_
         intro L T wS hL hd hcl hI K hK;try refine zA rfl ?_
         have zt:T[17]?=some (.int .i64 t):=hI.keep 17 sI;go_simp;exact hK _ _ (hI.y zFa rfl)
        ·refine zF.liftA kR dE ?_
         intro L T wS hL hd hcl hI K hK;try refine zA rfl ?_
         obtain⟨_,zt21,rfl⟩:=hI.v zE0 (hd 21);obtain⟨_,zt22,rfl⟩:=hI.v zFa (hd 22);go_simp;exact hK _ _ (hI.y zFb rfl)
        ·refine zF.liftA kR dE ?_
         intro L T wS hL hd hcl hI K hK;try refine zA rfl ?_
         obtain⟨_,zt23,rfl⟩:=hI.v zFb (hd 23);have cc0:=hI.cell (sI) oM y1;have cc1:=hI.cell (sI) oM y2;go_simp;exact hK _ _ (hI.y zHa rfl)
        ·refine zF.liftA kR dE ?_
         intro L T wS hL hd hcl hI K hK;try refine zA rfl ?_
         obtain⟨_,zt13,rfl⟩:=hI.v zCS (hd 13);obtain⟨_,zt24,rfl⟩:=hI.v zHa (hd 24);go_simp;refine(HOF.out _ _ _ (ZV.out.ext hI.onl.lext) (UV.out.ext hI.onl.lext)).mono ?_;rintro e wa ⟨v,rfl,hv,hba⟩;exact hK _ _ ((hI.world hba).y zE1 hv)
        ·refine zF.liftA kR dE ?_
         intro L T wS hL hd hcl hI K hK;try refine zA rfl ?_
         obtain⟨v25,zt25,h25⟩:=hI.v zE1 (hd 25);go_simp;exact hK _ _ (hI.y zIp h25)
        ·refine zF.liftA kR dE ?_
         intro L T wS hL hd hcl hI K hK;try refine zA rfl ?_
         obtain⟨v26,zt26,h26⟩:=hI.v zIp (hd 26);obtain⟨qq,rfl,hq⟩:=h26;go_simp;exact hK _ _ (hI.y zJf hq)
        ·intro L T wS hL hd hcl hI K hK
         try refine zA rfl ?_
         obtain⟨w0,hJ,-,-⟩:=id hI;obtain⟨z26,zt26,hz26⟩:=hJ.val _ zIp (hd 26);obtain⟨qq,rfl,hq⟩:QOf Q w0 z26:=hz26;go_simp;exact hK _ _ (hI.pure ⟨28,162,_⟩ zKA rfl (fun _=>rfl) dE (fun _=>zI3 dE dE))
        ·refine zF.liftA kR dE ?_
         intro L T wS hL hd hcl hI K hK;try refine zA rfl ?_
         obtain⟨_,zt0,rfl⟩:=hI.v mm0 (hd 0);obtain⟨_,zt1,rfl⟩:=hI.v mm1 (hd 1);go_simp;exact hK _ _ (hI.y zIq rfl)
        ·intro L T wS hL hd hcl hI K hK
         try refine zA rfl ?_
         replace hI:=hI.here hL;obtain⟨_,zt29,rfl⟩:=hI.v zIq (hd 29);obtain⟨z27,zt27,hz27⟩:=hI.v zJf (hd 27);obtain⟨t1,ta,tl,tc,t2,tb,tm,td,rfl,-,-⟩:=id hz27;obtain⟨_,_,_,_,_,_,_,_,v1,v2,v3,v4,v5,-⟩:=(hp.only hI.onl sI).cell (zAj htn);have v6:=v5 (t*4);have v7:=v5 (t*4+1);have v8:=v5 (t*4+2);have v9:=v5 (t*4+3);clear v5;go_simp;exact hK _ _ (RAS.store hI hL (by repeat' (first|exact xgn _|refine xgm.2 ⟨by dsimp only;decide,?_⟩)) dE (zGJ zt29 zt27).symm)
       intro T w9f hJ;obtain⟨w9,hI,-,hstw9⟩:=hJ;replace hstw9:=hstw9 kR;obtain⟨vz0,q0,rfl⟩:=hI.v mm0 rfl;obtain⟨vz1,q1,rfl⟩:=hI.v mm1 rfl;obtain⟨vz2,q2,rfl⟩:=hI.v mm2 rfl;obtain⟨vz3,q3,rfl⟩:=hI.v mm3 rfl;obtain⟨vz4,q4,rfl⟩:=hI.v mm4 rfl;obtain⟨vz5,q5,rfl⟩:=hI.v mm5 rfl;obtain⟨vz6,q6,rfl⟩:=hI.v mm6 rfl;obtain⟨vz7,q7,rfl⟩:=hI.v mm7 rfl;obtain⟨vz8,q8,rfl⟩:=hI.v mm8 rfl;obtain⟨vz9,q9,rfl⟩:=hI.v mm9 rfl;obtain⟨vz10,q10,rfl⟩:=hI.v zAB rfl;obtain⟨vz11,q11,rfl⟩:=hI.v zAG rfl;obtain⟨vz12,q12,rfl⟩:=hI.v zAs rfl;obtain⟨vz13,q13,rfl⟩:=hI.v zCS rfl;obtain⟨vz14,q14,rfl⟩:=hI.v zBq rfl;obtain⟨vz15,q15,rfl⟩:=hI.v zCV rfl;obtain⟨vz16,q16,rfl⟩:=hI.v zDy rfl;obtain⟨vz17,q17,rfl⟩:=hI.v zEy rfl;obtain⟨vz18,q18,rfl⟩:=hI.v zCl rfl;obtain⟨vz19,q19,rfl⟩:=hI.v zE5 rfl;obtain⟨vz20,q20,rfl⟩:=hI.v zEz rfl;obtain⟨vz21,q21,rfl⟩:=hI.v zE0 rfl;obtain⟨vz22,q22,rfl⟩:=hI.v zFa rfl;obtain⟨vz23,q23,rfl⟩:=hI.v zFb rfl;obtain⟨vz24,q24,rfl⟩:=hI.v zHa rfl;obtain⟨vz25,q25,hz25⟩:=hI.v zE1 rfl;obtain⟨vz26,q26,hz26⟩:=hI.v zIp rfl;obtain⟨vz27,q27,hz27⟩:=hI.v zJf rfl;obtain⟨vz28,q28,rfl⟩:=hI.v zKA rfl;obtain⟨vz29,q29,rfl⟩:=hI.v zIq rfl;have hT:=zAJ [(135,.slice (some ⟨g,0,none⟩) n n),(136,.int .i64 t),(137,.pointer (some ⟨be,0,none⟩)),(138,.pointer (some ⟨be,0,none⟩)),(139,.pointer (some ⟨be,0,none⟩)),(140,.pointer (some ⟨be,0,none⟩)),(141,.slice (some ⟨bh,0,none⟩) C cap),(142,.int .i64 i),(143,.pointer (some ⟨bh,i,none⟩)),(144,.slice (some ⟨rb,0,none⟩) m rc),(145,.pointer (some ⟨w.heap.size,0,none⟩)),(146,.int .i64 n),(147,.pointer (some ⟨rb,n*2,none⟩)),(148,.agg #[.bool s1,.slice a1 l1 k1]),(149,.pointer (some ⟨be,0,none⟩)),(150,.pointer (some ⟨be,0,none⟩)),(151,.pointer (some ⟨be,0,none⟩)),(152,.pointer (some ⟨be,0,none⟩)),(153,.slice (some ⟨bh,0,none⟩) C cap),(154,.int .i64 i),(155,.pointer (some ⟨bh,i,none⟩)),(156,.slice (some ⟨rb,0,none⟩) m rc),(157,.int .i64 t),(158,.pointer (some ⟨rb,t*2,none⟩)),(159,.agg #[.bool s2,.slice a2 l2 k2]),(160,vz25),(134,vz26),(161,vz27),(162,.int .i64 0),(163,.pointer (some ⟨g,t*4,none⟩))]
        (fun j hj=>hI.keep j (by simp only[xgm]at hj ⊢;simp[hj]))
        (by simp only[xgm];simp[q0,q1,q2,q3,q4,q5,q6,q7,q8,q9,q10,q11,q12,q13,q14,q15,q16,q17,q18,q19,q20,q21,q22,q23,q24,q25,q26,q27,q28,q29]) hI.size
       have how9:=hI.onl;clear hI;simp only[List.foldl_cons,List.foldl_nil,xgh,xgi,xgj,ptr]at hT;subst hT;clear q0 q1 q2 q3 q4 q5 q6 q7 q8 q9 q10 q11 q12 q13 q14 q15 q16 q17 q18 q19 q20 q21 q22 q23 q24 q25 q26 q27 q28 q29;have hbw9:=zEA how9;obtain⟨t1,ta,tl,tc,t2,tb,tm,td,rfl,i5,i6⟩:=id (show jN _ _ _ from hz27);have hw9:=hstw9.trans (zGJ rfl rfl);have hp9:=hp.below hbw9;have hset:=hp9.set (k:=t) (p:=prQ Q) (by rw[qG];exact htn) i5 i6;rw[zIh,zAf (g:=fun a=>prQ (zE7 S n (i+1) a)) fun a _=>(HQE.out a).symm]at hset;have hog:qU [g] w9 w9f:=by
        rw[hw9];exact⟨jB (Below.refl _ _) (Nat.zero_le _) _ _ _ _ _,hset.2,fun k' _ hk'=>zDG _ _ _ _ _ _ _ _ (by simpa using hk')⟩
       rw[<-hw9]at hset;have hfin:=(ho.trans (qU.of [g] hbw9)).trans hog;have hset1:=hset.1;clear hset hw9 hstw9 hz25 hz26 hz27 how9 i5 i6 hl3 hl4 hl5;go_wp2;go_roundw
       case rel=>exact⟨i+1,by omega,by simp,hfin,hset1⟩
       case measure=>simp[intOf];omega
      ·obtain rfl:i=k:=by omega
       have hpx:=hp.prs (qG _ _) (xgf n) (by omega:n<=9223372036854775807);have hBE:=nx hB hbu;go_wp2;refine bodyPost_ret (zCq (fn:=Tryz.f161) (a:=4) (b:=5) (c:=6) rfl _ _ _) rfl ?_;exact⟨.inr ⟨_,hzz.out,rfl,by rw[HK.out];exact hpx⟩,hBE⟩
theorem zMY{e:Nat}(v:Value)(n:Nat)(Y:Nat->Rat)(w:World)(h:jY w v (zAC n fun t=>prQ (Y t)))(hn:n<=1000000)(he:e+10<=1000000)(hY:∀t,t<n->HQ e (Y t)):
  Calls Tryz.prog 162 #[v] w fun e w'=>∃v,e= .returned v/\jY w' v (zAC n fun t=>prQ (Y t/2))/\Below w.heap.size w w':=by
 obtain⟨ao,m,cap,rfl,h2,h3,h4,-⟩:=id h;rw[qG]at h2;subst h2;have H:=xgv h;have HDV:qE (∀(v1 v2:Value) (t:Nat) (w:World),t<n->jN w v1 (Y t)->jN w v2 2->Calls Tryz.prog 233 #[v1,v2] w fun e w'=>∃v,e= .returned v/\QOf (Y t/2) w' v/\Below w.heap.size w w'):=⟨fun v1 v2 t w ht k1 k2=>by
  refine(zNF (a:=e) (b:=2) v1 v2 (Y t) 2 w k1 k2 (hY t ht) ⟨by decide,by decide⟩ oM dE).mono ?_;rintro e' w' ⟨v,rfl,h1,h2⟩;exact⟨_,rfl,⟨v,rfl,h1⟩,h2⟩⟩
 obtain⟨F,hF⟩:∃F:Nat->Int × Int,(fun t=>prQ (Y t/2))=F:=⟨_,rfl⟩;have HFE:qE (∀k,F k=prQ (Y k/2)):=⟨fun k=>by rw[<-hF]⟩;rw[hF];have hmk:=fun W=>mkQ (n:Int) n rfl oM W
 clear h hY hF he;go_enter Tryz.func162,Tryz.ntmps162;go_upto_region 2 with(fail)
 refine zB ?_;intro W1 hW1;have hB:Below w.heap.size w W1:=by rw[hW1.out];exact(Below.refl _ _).alloc (xgf _) _
 have hp:zAS W1 w.heap.size (zAC n (zCt F (fun _=>(0,0)) 0)):=by
  rw[hW1.out,show zAC n (zCt F (fun _=>(0,0)) 0)=zAC n fun _=>(0,0) from zAf fun k _=>by unfold zCt;rw[if_neg oM]];exact zI2 w n
 clear hW1;obtain⟨g,hg⟩:∃g,w.heap.size=g:=⟨_,rfl⟩;have HGE:=xgv hg;go_wp2;rw[hg]at hp ⊢
 clear hg;go_loopw [11] (fun iv wr=>∃i:Nat,i<=n/\iv= .int .i64 i/\Below w.heap.size w wr/\zAS wr g (zAC n (zCt F (fun _=>(0,0)) i))) (fun iv _=>n-(intOf iv).toNat)
 case atStart=>exact⟨0,by omega,rfl,hB,hp⟩
 case round=>
  clear hB hp;obtain⟨i,hi,rfl,hB,hp⟩:=hrel;by_cases hlt:i<n
  ·obtain⟨b,p,s1,a1,l1,k1,s2,a2,l2,k2,rfl,hbl,hpk,q1,q2,q3,q4,i1,i2⟩:=(H.out.below hB).cell (k:=i) (by rw[qG];exact hlt)
   rw[zAj hlt]at hpk;injection hpk with hpk
   subst hpk;have HY:qE (jN wr (.agg #[.bool s1,.slice a1 l1 k1,.bool s2,.slice a2 l2 k2]) (Y i)):=⟨⟨_,_,_,_,_,_,_,_,rfl,i1,i2⟩⟩;clear i1 i2;go_upto_region 5 with(fail)
   refine zB ?_;intro W2 hW2;obtain⟨hB2,T5,hs2⟩:=zK hW2;have hp:=hp.below hB2;have hB:=nx hB hB2;obtain⟨c1,c2,c3,c4,c5,c6,c7,c8⟩:=T5.four;have HY:=xgv (HY.out.below hB2);have hl1:=qY 2;have hl2:qK (QOf (Y i/2)):=fun _ _ _ x ⟨v,h1,h2⟩=>⟨v,h1,h2.below x⟩
   have hl3:=qY (Y i/2);have lt5:=T5.lt;have ltg:=hp.lt;clear hW2 q1 q2 q3 q4;refine zE rfl (RAS ([]) 99 W2 _ [⟨0,17,fun _ v=>v= .slice (some ⟨g,0,none⟩) n n⟩,⟨1,18,fun _ v=>v= .int .i64 i⟩,⟨2,19,fun _ v=>v= .agg #[.bool s1,.slice a1 l1 k1,.bool s2,.slice a2 l2 k2]⟩,⟨3,20,fun w v=>zH w v (2)⟩,⟨4,21,fun w v=>jN w v 2⟩,⟨5,22,QOf (Y i/2)⟩,⟨6,16,QOf (Y i/2)⟩,⟨7,23,fun w v=>jN w v (Y i/2)⟩,⟨8,24,fun _ v=>v= .int .i64 0⟩,⟨9,25,fun _ v=>v= .pointer (some ⟨g,i*4,none⟩)⟩] 10 (zOu 25 23)) kR (RAS.start (RA.start kR (by repeat' (first|exact yL _|exact jC _|exact jD _ _ _|exact qZ _|assumption|refine xgm.2 ⟨?_,?_⟩|exact xgn _)))) ?fin1 ?steps1
   case steps1=>
    refine⟨?_,?_,?_,?_,?_,?_,?_,?_,?_,?_,?_,trivial⟩
    ·refine zF.liftA kR dE ?_
     intro L T wS hL hd hcl hI K hK;try refine zA rfl ?_
     have zt:T[3]?=some (.slice (some ⟨g,0,none⟩) n n):=hI.keep 3 sI;go_simp;exact hK _ _ (hI.y mm0 rfl)
    ·refine zF.liftA kR dE ?_
     intro L T wS hL hd hcl hI K hK;try refine zA rfl ?_
     have zt:T[4]?=some (.int .i64 i):=hI.keep 4 sI;go_simp;exact hK _ _ (hI.y mm1 rfl)
    ·refine zF.liftA kR dE ?_
     intro L T wS hL hd hcl hI K hK;try refine zA rfl ?_
     have zt:T[5]?=some (.pointer (some ⟨wr.heap.size,0,none⟩)):=hI.keep 5 sI;have cc0:=hI.cell (sI) oM c1;have cc1:=hI.cell (sI) oM c2;have cc2:=hI.cell (sI) oM c3;have cc3:=hI.cell (sI) oM c4;go_simp;exact hK _ _ (hI.y mm2 rfl)
    ·refine zF.liftA kR dE ?_
     intro L T wS hL hd hcl hI K hK;try refine zA rfl ?_
     go_simp;refine(zBK 2 _ dE dE).mono ?_;rintro e wa ⟨v,rfl,hv,hba⟩;exact hK _ _ ((hI.world hba).y mm3 hv)
    ·refine zF.liftA kR dE ?_
     intro L T wS hL hd hcl hI K hK;try refine zA rfl ?_
     obtain⟨v3,zt3,h3⟩:=hI.v mm3 (hd 3);go_simp;refine(zDj _ 2 _ h3 (Sm.mono (z:=2) (qL (e:=2) dE dE) dE)).mono ?_;rintro e wa ⟨v,rfl,hv,hba⟩;exact hK _ _ ((hI.world hba).y mm4 hv)
    ·refine zF.liftA kR dE ?_
     intro L T wS hL hd hcl hI K hK;try refine zA rfl ?_
     obtain⟨_,zt2,rfl⟩:=hI.v mm2 (hd 2);obtain⟨v4,zt4,h4⟩:=hI.v mm4 (hd 4);go_simp;refine(HDV.out _ _ i _ hlt (HY.out.ext hI.onl.lext) h4).mono ?_;rintro e wa ⟨v,rfl,hv,hba⟩;exact hK _ _ ((hI.world hba).y mm5 hv)
    ·refine zF.liftA kR dE ?_
     intro L T wS hL hd hcl hI K hK;try refine zA rfl ?_
     obtain⟨v5,zt5,h5⟩:=hI.v mm5 (hd 5);go_simp;exact hK _ _ (hI.y mm6 h5)
    ·refine zF.liftA kR dE ?_
     intro L T wS hL hd hcl hI K hK;try refine zA rfl ?_
     obtain⟨v6,zt6,h6⟩:=hI.v mm6 (hd 6);obtain⟨qq,rfl,hq⟩:=h6;go_simp;exact hK _ _ (hI.y mm7 hq)
    ·intro L T wS hL hd hcl hI K hK
     try refine zA rfl ?_
     obtain⟨w0,hJ,-,-⟩:=id hI;obtain⟨z26,zt26,hz26⟩:=hJ.val _ mm6 (hd 6);obtain⟨qq,rfl,hq⟩:QOf (Y i/2) w0 z26:=hz26;go_simp;exact hK _ _ (hI.pure ⟨8,24,_⟩ mm8 rfl (fun _=>rfl) dE (fun _=>zI3 dE dE))
    ·refine zF.liftA kR dE ?_
     intro L T wS hL hd hcl hI K hK;try refine zA rfl ?_
     obtain⟨_,zt0,rfl⟩:=hI.v mm0 (hd 0);obtain⟨_,zt1,rfl⟩:=hI.v mm1 (hd 1);go_simp;exact hK _ _ (hI.y mm9 rfl)
    ·intro L T wS hL hd hcl hI K hK
     try refine zA rfl ?_
     replace hI:=hI.here hL;obtain⟨_,zt29,rfl⟩:=hI.v mm9 (hd 9);obtain⟨z27,zt27,hz27⟩:=hI.v mm7 (hd 7);obtain⟨t1,ta,tl,tc,t2,tb,tm,td,rfl,-,-⟩:=id hz27;obtain⟨_,_,_,_,_,_,_,_,v1,v2,v3,v4,v5,-⟩:=(hp.only hI.onl sI).cell (zAj hlt);have v6:=v5 (i*4);have v7:=v5 (i*4+1);have v8:=v5 (i*4+2);have v9:=v5 (i*4+3);clear v5;go_simp;exact hK _ _ (RAS.store hI hL (by repeat' (first|exact xgn _|refine xgm.2 ⟨by dsimp only;decide,?_⟩)) dE (zGJ zt29 zt27).symm)
   intro T w9f hJ;obtain⟨w9,hI,-,hstw9⟩:=hJ;replace hstw9:=hstw9 kR;obtain⟨vz0,q0,rfl⟩:=hI.v mm0 rfl;obtain⟨vz1,q1,rfl⟩:=hI.v mm1 rfl;obtain⟨vz2,q2,rfl⟩:=hI.v mm2 rfl;obtain⟨vz3,q3,hz3⟩:=hI.v mm3 rfl;replace hz3:zH w9 vz3 (2):=hz3;obtain⟨vz4,q4,hz4⟩:=hI.v mm4 rfl;obtain⟨vz5,q5,hz5⟩:=hI.v mm5 rfl;obtain⟨vz6,q6,hz6⟩:=hI.v mm6 rfl;obtain⟨vz7,q7,hz7⟩:=hI.v mm7 rfl;obtain⟨vz8,q8,rfl⟩:=hI.v mm8 rfl;obtain⟨vz9,q9,rfl⟩:=hI.v mm9 rfl;have hT:=zAJ [(17,.slice (some ⟨g,0,none⟩) n n),(18,.int .i64 i),(19,.agg #[.bool s1,.slice a1 l1 k1,.bool s2,.slice a2 l2 k2]),(20,vz3),(21,vz4),(22,vz5),(16,vz6),(23,vz7),(24,.int .i64 0),(25,.pointer (some ⟨g,i*4,none⟩))]
    (fun j hj=>hI.keep j (by simp only[xgm]at hj ⊢;simp[hj]))
    (by simp only[xgm];simp[q0,q1,q2,q3,q4,q5,q6,q7,q8,q9]) hI.size
   have how9:=hI.onl;clear hI;simp only[List.foldl_cons,List.foldl_nil,xgh,xgi,xgj,ptr]at hT;subst hT;clear q0 q1 q2 q3 q4 q5 q6 q7 q8 q9;have hbw9:=zEA how9;obtain⟨t1,ta,tl,tc,t2,tb,tm,td,rfl,i5,i6⟩:=id (show jN _ _ _ from hz7);have hw9:=hstw9.trans (zGJ rfl rfl);have hp9:=hp.below hbw9;have hset:=hp9.set (k:=i) (p:=prQ (Y i/2)) (by rw[qG];exact hlt) i5 i6;rw[<-HFE.out,zHY,<-hw9]at hset;have hB9:Below w.heap.size w w9f:=by rw[hw9];exact jB (nx hB hbw9) (by rw[HGE.out];exact xgf _) _ _ _ _ _
   have hset1:=hset.1;clear hset hw9 hstw9 hz3 hz4 hz5 hz6 hz7 how9 i5 i6 hl1 hl2 hl3 c1 c2 c3 c4 c5 c6 c7 c8;go_wp2;go_roundw
   case rel=>exact⟨i+1,by omega,by simp,hB9,hset1⟩
   case measure=>simp[intOf];omega
  ·obtain rfl:i=n:=by omega
   rw[show zAC i (zCt F (fun _=>(0,0)) i)=zAC i F from zAf fun k hk=>by unfold zCt;rw[if_pos hk]]at hp;have hpx:=hp.prs (qG _ _) (xgf i) (by omega:i<=9223372036854775807);go_wp2;go_ret;exact⟨_,rfl,hpx,hB⟩
theorem zKl(v:Value)(q:Rat)(w:World)(h:jN w v q):Calls Tryz.prog 164 #[v] w fun e w'=>∃u,e= .returned u/\u= .bool (!isZ q)/\Below w.heap.size w w':=by
 obtain⟨s1,a1,l1,k1,s2,a2,l2,k2,rfl,i1,i2⟩:=id h;obtain⟨b,hb⟩:∃b,isZ q=b:=⟨_,rfl⟩;have HI:qE (∀(v:Value) (w:World),jN w v q->Calls Tryz.prog 165 #[v] w fun e w'=>∃u,e= .returned u/\u= .bool b/\Below w.heap.size w w'):=⟨fun v w hv=>hb ▸ zBm v q w hv⟩;have H:=xgv h;rw[hb];clear h i1 i2 hb;go_enter Tryz.func164,Tryz.ntmps164;go_upto_region 1 with(fail)
 refine zB ?_;intro W0 hW0;obtain⟨hB0,T1,hs0⟩:=zK hW0;obtain⟨c1,c2,c3,c4,c5,c6,c7,c8⟩:=T1.four;clear hW0;go_wp2_with fail
 refine(HI.out _ W0 (H.out.below hB0)).mono ?_;rintro e w1 ⟨u,rfl,rfl,hb1⟩;go_wp2;go_ret;exact⟨_,rfl,rfl,nx hB0 hb1⟩
theorem zMk(v:Value)(n:Nat)(X:Nat->Rat)(w:World)(h:jY w v (zAC n fun t=>prQ (X t)))(hn:n<=1000000):
  Calls Tryz.prog 163 #[v,.func (.func 164) #[] #[]] w fun e w'=>∃k:Int,e= .returned (.int .i64 k)/\((k=-1/\∀i,i<n->isZ (X i)=true)∨∃i:Nat,i<n/\k=i/\isZ (X i)=false)/\Below w.heap.size w w':=by
 obtain⟨ao,m,cap,rfl,h2,h3,h4,-⟩:=id h;rw[qG]at h2;subst h2;have H:=xgv h;clear h;go_enter Tryz.func163,Tryz.ntmps163;go_wp2;go_loopw [8] (fun iv wr=>∃i:Nat,i<=n/\iv= .int .i64 i/\Below w.heap.size w wr/\qE (∀a,a<i->isZ (X a)=true)) (fun iv _=>n-(intOf iv).toNat)
 case atStart=>exact⟨0,by omega,rfl,Below.refl _ _,⟨fun a h=>by omega⟩⟩
 case round=>
  obtain⟨i,hi,rfl,hB,hz⟩:=hrel;by_cases hlt:i<n
  ·obtain⟨b,p,s1,a1,l1,k1,s2,a2,l2,k2,rfl,hbl,hpk,q1,q2,q3,q4,i1,i2⟩:=(H.out.below hB).cell (k:=i) (by rw[qG];exact hlt)
   rw[zAj hlt]at hpk;injection hpk with hpk
   subst hpk;have HY:qE (jN wr (.agg #[.bool s1,.slice a1 l1 k1,.bool s2,.slice a2 l2 k2]) (X i)):=⟨⟨_,_,_,_,_,_,_,_,rfl,i1,i2⟩⟩;clear i1 i2;go_wp2_with fail
   refine(zKl _ (X i) wr HY.out).mono ?_;rintro e w1 ⟨u,rfl,rfl,hb1⟩;cases hc:isZ (X i)with
   | true=>
    have hzz:qE (∀a,a<i+1->isZ (X a)=true):=⟨fun a h=>by
     rcases Nat.lt_or_ge a i with h2|h2
     ·exact hz.out a h2
     ·obtain rfl:a=i:=by omega
      exact hc⟩
    clear hc;go_wp2;go_roundw
    case rel=>exact⟨i+1,by omega,by simp,nx hB hb1,hzz⟩
    case measure=>simp[intOf];omega
   |false=>
    have HC:=xgv hc;clear hc;go_wp2;go_ret;exact⟨_,rfl,.inr ⟨i,hlt,rfl,HC.out⟩,nx hB hb1⟩
  ·obtain rfl:i=n:=by omega
   go_wp2;go_ret;exact⟨_,rfl,.inl ⟨rfl,hz.out⟩,hB⟩
def zRe(n:Nat)(F:Nat->Nat->Int)(j:Nat):Int:=qF j fun t=>sg1 t*(F 0 t*det n (mnr F 0 t))
def zPL(m C:Nat)(A:Nat->Nat->Int)(x:Nat->Int):Prop:=∃y:Nat->Int,∀b,b<C->x b=qF m fun a=>y a*A a b
def zRU(R C:Nat)(A:Nat->Nat->Int)(x:Nat->Int):Prop:=∀b,b<C->(qF R fun a=>x a*A a b)=0
def zQ3(R C:Nat)(A:Nat->Nat->Int)(x:Nat->Int):Prop:=∀y:Nat->Int,(∀a,a<R->(qF C fun b=>A a b*y b)=0)->(qF C fun b=>x b*y b)=0
structure HB(C m:Nat)(G:Nat->Nat->Int)(L:(Nat->Int)->Prop):Prop where
 hnf:∃c,Hnf C m m c G
 iff:∀x,L x↔zPL m C G x
def zRf(m:Nat)(G:Nat->Nat->Int):Nat->Nat->Int:=fun a b=>if a<m then G a b else 0
def zRd(r:Nat)(U:Nat->Nat->Int):Nat->Nat->Int:=fun a b=>U (r+a) b
def zQz(k R C:Nat)(A:Nat->Nat->Int):Prop:=∃σ τ:Nat->Nat,(∀a,a<k->σ a<R)/\(∀a,a<k->τ a<C)/\det k (fun a b=>A (σ a) (τ b))≠0
structure zRX(R C:Nat)(A:Nat->Nat->Int):Prop where
 sat:∀x,zQ3 R C A x->zPL R C A x
 full:zQz R R C A
theorem zK9(v:Value)(zs:List Int)(w:World)(h:qN w v zs):
  Calls Tryz.prog 71 #[v] w fun e w'=>e= .returned (.bool (decide (∀z∈zs,z=0)))/\Below w.heap.size w w':=by
 obtain⟨ao,n,cap,rfl,e2,e3,e4,-⟩:=id h;have HX:=xgw e2;clear e2;obtain⟨ans,hans⟩:∃ans,decide (∀z∈zs,z=0)=ans:=⟨_,rfl⟩;rw[hans];have HA:=xgw hans;clear hans;go_enter Tryz.func71,Tryz.ntmps71;go_wp2;go_loopw [7] (fun iv wr=>∃k:Nat,k<=n/\iv= .int .i64 k/\Below w.heap.size w wr/\Hid (∀z∈zs.take k,z=0)) (fun iv _=>n-(intOf iv).toNat)
 case atStart=>exact⟨0,by omega,rfl,Below.refl _ _,xgw sI⟩
 case round=>
  obtain⟨k,hk,rfl,hb,hz⟩:=hrel;by_cases hlt:k<n
  ·obtain⟨b,z,s,a,l,c,rfl,hbl,hzk,q1,q2,hzv⟩:=(h.below hb).cell (k:=k) (by rw[HX.out];exact hlt)
   have HZ:=xgw hzk;clear hzk;go_upto_region 4 with(fail)
   refine zB ?_;intro W1 hW1;obtain⟨hB1,T4,hs1⟩:=zK hW1;obtain⟨d1,d2,d3,d4⟩:=T4.two;clear q1 q2 hW1;go_wp2_with fail
   refine(qV _ z W1 (hzv.ext (lx hB1)).weak).mono ?_;rintro e w2 ⟨rfl,hb2⟩;have hb':=nx (nx hb hB1) hb2;clear d1 d2 d3 d4;by_cases h0:z=0
   ·have hc:(qJ z 0 !=0)=false:=by rw[h0];decide
    obtain⟨q,hq⟩:∃q,qJ z 0=q:=⟨_,rfl⟩;rw[hq]at hc ⊢
    clear hq;go_wp2;go_roundw
    case rel=>
     refine⟨k+1,by omega,by simp,hb',xgw ?_⟩;rw[List.take_add_one,HZ.out];intro y hy;rcases List.mem_append.1 hy with h1|h1
     ·exact hz.out y h1
     ·simp at h1
      rw[h1,h0]
    case measure=>simp[intOf];omega
   ·have hc:(qJ z 0 !=0)=true:=by
     rw[bne_iff_ne];unfold qJ;split<;>(try split)<;>omega
    obtain⟨q,hq⟩:∃q,qJ z 0=q:=⟨_,rfl⟩;rw[hq]at hc ⊢
    clear hq;go_wp2;go_ret;refine⟨?_,hb'⟩;rw[<-HA.out,decide_eq_false (fun hh=>h0 (hh z (xgd HZ.out)))];rfl
  ·obtain rfl:k=n:=by omega
   go_wp2;go_ret;refine⟨?_,hb⟩;have:=hz.out;rw[<-HX.out,List.take_length]at this;rw[<-HA.out,decide_eq_true this];rfl

def zRI(M:List (List Int))(xs ys:List Nat):Nat->Nat->Int:=fun a b=>ent M (xs.getD a 0) (ys.getD b 0)
def zRL(n k:Nat):List Nat:=(List.range n).take k++(List.range n).drop (k+1)
def lap(n:Nat)(M:List (List Int))(j:Nat):Int:=qF j fun t=>sg1 t*(ent M 0 t*det n (mnr (ent M) 0 t))
def zNk(t:TypeId)(n0:Nat)(cs:Array Value)(w:World)(v:Value):Prop:=∃b,v= .pointer (some ⟨b,0,none⟩)/\n0<=b/\Blk w b t cs
theorem zAz(t:TypeId)(n0:Nat)(cs:Array Value):qK (zNk t n0 cs):=fun _ _ _ e ⟨b,h1,h2,h3⟩=>⟨b,h1,h2,h3.below e⟩
def zQ1(R C:Int)(M:List (List Int))(w:World)(v:Value):Prop:=∃u,v= .tuple #[u,.int .i64 0]/\jE w u R C M
theorem jA.cut3{w:World}{ao:Option Addr}{n cap:Nat}{M:List (List Int)}(h:jA w (.slice ao n cap) M){i:Nat}(hi:i<=n):jA w (.slice ao i i) (M.take i):=by
 obtain⟨ao',n',cap',e1,e2,e3,e4,e5⟩:=h;cases e1;refine⟨_,i,i,rfl,by simp;omega,xgf _,by omega,fun hn=>?_⟩;obtain⟨b,cs,f1,f2,f3⟩:=e5 (by rintro rfl;simp at hn);refine⟨b,cs,f1,f2,fun k zs hk=>f3 k zs ?_⟩;rw[List.getElem?_take]at hk;split at hk
 ·exact hk
 ·cases hk
theorem zKo{R C r:Nat}{F:Nat->Nat->Int}(h:r<=R):(zY R C F).take r=zY r C F:=by
 refine List.ext_getElem? fun k=>?_
 rw[List.getElem?_take];by_cases hk:k<r
 ·rw[if_pos hk,zAW R C F oM,zAW r C F hk]
 ·rw[if_neg hk,List.getElem?_eq_none (by simp[zY];omega)]
theorem zK8(v:Value)(n:Nat)(f:Nat->Int)(w:World)(h:qN w v (zM n f))(b:Bool)(hb:b=true↔∀t,t<n->f t=0):
  Calls Tryz.prog 71 #[v] w fun e w'=>e= .returned (.bool b)/\Below w.heap.size w w':=by
 have e:decide (∀z∈zM n f,z=0)=b:=by
  rw[Bool.eq_iff_iff,hb,decide_eq_true_eq];constructor
  ·intro h t ht
   exact h _ (xgd (zP ht))
  ·intro h z hz
   obtain⟨t,ht⟩:=List.getElem?_of_mem hz;have htn:t<n:=by
    have:=(xge.1 ht).1;rwa[zD]at this
   rw[zP htn]at ht;injection ht with ht
   rw[<-ht];exact h t htn
 rw[<-e];exact zK9 v _ w h
theorem zJs{H0:Nat}(hv bv:Value)(RA R C r:Nat)(c:Nat->Nat)(H A:Nat->Nat->Int)(y:Nat->Int)(w:World)(hm:jE w hv R C (zY R C H))(hnf:Hnf C R r c H)(hb:qN w bv (zM C y))(hR:R<=4)(hC1:1<=C)(hC:C<=1000)(hH0:H0<=2^30)(hH1:1<=H0)
  (hh:∀i,i<R->∀j,j<C->(H i j).natAbs<=H0) (hy:∀j,j<C->(y j).natAbs<=H0) (hA:∀a,a<RA->∃v:Nat->Int,∀j,j<C->A a j=qF r fun t=>v t*H t j) (hne:¬ ∃z:Nat->Int,∀j,j<C->y j=qF r fun t=>z t*H t j):
  Calls Tryz.prog 72 #[hv,bv] w fun e w'=>∃v q,e= .returned v/\jY w' v (zAC C fun t=>prQ (q t))/\zL8 RA C A y q/\(∀t,t<C->HQ 170 (q t))/\Below w.heap.size w w':=by
 obtain⟨Av,rfl,hrw⟩:=id hm;obtain⟨ao,n,acap,rfl,e2,e3,e4,-⟩:=id hrw;obtain rfl:n=R:=by rw[<-e2];simp[zY]
 obtain⟨bo,bn,bc,rfl,f2,f3,f4,-⟩:=id hb;obtain rfl:C=bn:=by rw[<-f2,zD]
 have hle:=hnf.le;have hra:r<=acap:=by omega
 have HEN:qE (∀i,i<r->∀j,j<C->ent (zY r C H) i j=H i j):=⟨fun i hi j hj=>yX hi hj⟩;have HRC:=xgv (zNK (A:=ent (zY r C H)) (y:=y) hnf.ech oM hH0 hH1 (fun i hi j hj=>hh i oM j hj) hy (fun i hi j hj=>yX hi hj));have HRR:=xgv (fun(u:Nat->Int) (hu:∀i,i<r->(u i).natAbs<=H0)=>zNL (A:=ent (zY C r fun a b=>ent (zY r C H) b a)) (u:=u) hnf.ech oM hH0 hH1 (fun i hi j hj=>hh i oM j hj) hu (fun i hi j hj=>by rw[yX hj hi,yX hi hj]));have HCASE:qE ((∃b:Nat,ao=some ⟨b,0,none⟩)∨r=0):=⟨by
  rcases Nat.eq_zero_or_pos n with h|h
  ·right;omega
  ·left
   obtain⟨b,_,_,_,_,e,-⟩:=hrw.row (k:=0) (by simp[zY];omega);exact⟨b,e⟩⟩
 have HM:=xgv hm;have HRW:=xgv hrw;have HB:=xgv hb;have HN:=xgv hnf;have HA:=xgv hA;have HNE:=xgv hne;have HHB:=xgv hh;clear hm hrw hb hnf hA hne hh e2 f2 hy;go_enter Tryz.func72,Tryz.ntmps72;go_upto_region 1 with(fail)
 refine zB ?_;intro W0 hW0;obtain⟨hB0,T2,hs0⟩:=zK hW0;clear hW0;go_wp2;go_loopw [5] (fun iv wr=>∃i:Nat,i<=r/\iv= .int .i64 i/\Below w.heap.size w wr/\Blk wr w.heap.size 28 #[.int .i64 n,.int .i64 C,.slice ao n acap]) (fun iv _=>r-(intOf iv).toNat)
 case atStart=>exact⟨0,by omega,rfl,hB0,T2⟩
 case round=>
  clear hB0 T2;rename_i Q0 K0 hK0;have HK0:=xgv hK0;have body:∀{u12 u13 u14 u15 u16 u17 u18 u19 u20 u21 u22 u23 u24 u25 u26:Value} (wX:World),Below w.heap.size w wX->Blk wX w.heap.size 28 #[.int .i64 n,.int .i64 C,.slice ao n acap]->K0 {tmps:=#[.agg #[.int .i64 n,.int .i64 C,.slice ao n acap],.slice bo C bc,.pointer (some ⟨w.heap.size,0,none⟩),undef,.slice none 0 0,.int .i64 r,undef,undef,undef,undef,undef,undef,u12,u13,u14,u15,u16,u17,u18,u19,u20,u21,u22,u23,u24,u25,u26,undef,undef,undef,undef,undef,undef,undef,undef,undef,undef,undef,undef,undef,undef,undef,undef,undef,undef,undef,undef,undef,undef,undef,undef,undef,undef,undef,undef,undef,undef,undef,undef,undef,undef,undef,undef,undef,undef,undef],defers:=[]} wX:=by
   intro u12 u13 u14 u15 u16 u17 u18 u19 u20 u21 u22 u23 u24 u25 u26 wX hB T2;refine HK0.out _ _ ?_;obtain⟨c1,c2,c3,c4,c5,c6⟩:=T2.three;have hl1:=zAz 28 wX.heap.size #[.int .i64 0,.int .i64 0,.slice none 0 0];have hl2:=jC (.slice ao r r);have lt2:=T2.lt;clear HK0 hK0 hrel;go_upto_region 4 with(fail)
   refine zC 10 rfl (RV wX _ [VN 0 27 r,VP 1 28 w.heap.size 1,VN 2 29 C,VP 3 30 w.heap.size 2,E 4 31 (.slice ao n acap),VN 5 32 r,VN 6 33 r,⟨7,34,fun _ v=>v= .slice ao r r⟩,E 8 35 (.agg #[.int .i64 r,.int .i64 C,.slice ao r r]),⟨9,6,zNk 28 wX.heap.size #[.int .i64 0,.int .i64 0,.slice none 0 0]⟩]) kR RV.start (RV.fin kR ?fin1) ?steps1
   case steps1=>
    (repeat' constructor)<;>(intro L T wS hL hd hcl hI K hK;try refine zA rfl ?_)
    ·exact xgs (hI.k 5 rfl kR)
    ·exact xgs (hI.k 2 rfl kR)
    ·have zt1:=hI.e mm1 (hd 1)
     have cc0:=hI.cell c2;exact xgu
    ·exact xgs (hI.k 2 rfl kR)
    ·have zt3:=hI.e mm3 (hd 3)
     have cc0:=hI.cell c3;exact xgu
    ·exact xgs (hI.k 5 rfl kR)
    ·exact xgs (hI.k 5 rfl kR)
    ·obtain⟨_,zt4,rfl⟩:=hI.v mm4 (hd 4)
     obtain⟨_,zt5,rfl⟩:=hI.v mm5 (hd 5);obtain⟨_,zt6,rfl⟩:=hI.v mm6 (hd 6);rcases HCASE.out with⟨b0,rfl⟩|rfl
     all_goals go_simp
     all_goals exact hK _ _ (hI.y mm7 rfl)
    ·have zt0:=hI.e mm0 (hd 0)
     have zt2:=hI.e mm2 (hd 2);obtain⟨v7,zt7,h7⟩:=hI.v mm7 (hd 7);subst h7;exact xgu
    ·go_simp
     exact hK _ _ ((hI.world ((Below.refl _ _).alloc (xgf _) _)).y mm9 ⟨_,rfl,hI.bel.size,Blk.new _ _ _⟩)
   intro w1 hbw1 T hT;simp only[Fin,E,EI,VP,VSl,VN,xgg,xgh,xgi,xgj]at hT;obtain⟨va9,ha9,rfl⟩:=hT;simp only[xgl,xgk];obtain⟨b6,rfl,hb6,T6⟩:=(show zNk _ _ _ _ _ from ha9);have T2:=T2.below hbw1;have hB:=nx hB hbw1;have q6:=T6.lt;clear c1 c2 c3 c4 c5 c6 ha9;obtain⟨g1,g2,g3,g4,g5,g6⟩:=T6.three;go_upto_region 5 with(fail)
   refine zB ?_;intro W2 hW2;have T6:Blk W2 b6 28 #[.int .i64 r,.int .i64 C,.slice ao r r]:=by rw[hW2.out];exact T6.put3 _ _ _
   have qx:=hB.size;have hB:Below w.heap.size w W2:=by rw[hW2.out];exact zO (zO (zO hB oM _ _) oM _ _) oM _ _
   have HBA:qE (jE w (.agg #[.int .i64 r,.int .i64 C,.slice ao r r]) r C (zY r C H)):=⟨_,rfl,by rw[<-zKo hle];exact HRW.out.cut3 hle⟩;have hF:jT r C (zY r C H):=zAm _ _ _;clear hW2 g1 g2 g3 g4 g5 g6;obtain⟨g1,g2,g3,g4,g5,g6⟩:=T6.three;go_wp2_with fail
   refine(zFG (e:=160) _ _ r C (zY r C H) y W2 (HBA.out.below hB) hF (HB.out.below hB) oM hC hC1 dE HRC.out.st HRC.out.pv).mono ?_;rintro e w3 ⟨hsol,hb3⟩;have T6:=T6.below hb3;have hB:=nx hB hb3;have HBN:=xgv HRC.out.inv;have HBD:=xgv ((HRC.out.st r (xgf _)).2.2.2);obtain⟨S,hS⟩:∃S,zAi C (eqL r (ent (zY r C H)) y) r=S:=⟨_,rfl⟩;rw[hS]at hsol HBN HBD;clear hS HRC g1 g2 g3 g4 g5 g6;rcases hsol with⟨i,yv,s1,s2,s3,rfl,hp⟩|⟨xv,hz,rfl,hp⟩
   ·have hrf:=zRJ HBN.out s1 s2 s3
    have hq:zL8 RA C A y fun t=>Rat.divInt (S.E i (r+1+t)) (S.E i r)/2:=zLY HA.out (fun a ha=>by
     rw[<-hrf.1 a ha];exact qI fun t ht=>by rw[HEN.out a ha t ht]) hrf.2 fun j hj=>by rw[Rat.divInt_eq_div]
    have hH:∀t,t<C->HQ 160 (Rat.divInt (S.E i (r+1+t)) (S.E i r)):=fun t ht=>.divInt (HBD.out i s2 _ oM) (HBD.out i s2 r oM) s3
    have HQQ:=xgv hq;have HHH:=xgv hH;clear hq hH hrf s3;go_wp2_with fail
    refine(zMY (e:=160) yv C (fun t=>Rat.divInt (S.E i (r+1+t)) (S.E i r)) w3 hp oM dE HHH.out).mono ?_;rintro e w4 ⟨hv,rfl,hp4,hb4⟩;go_wp2;go_ret;exact⟨_,_,rfl,hp4,HQQ.out,fun t ht=>(HHH.out t ht).half.mono dE,nx hB hb4⟩
   ·have hsx:=zQo HBN.out hz
    obtain⟨X,hX⟩:∃X,zE7 S r S.pv.length=X:=⟨_,rfl⟩;rw[hX]at hsx hp;have HSX:qE (∀j,j<C->jK r (fun i=>(H i j:Rat)*X i)=y j):=⟨fun j hj=>by
     rw[<-hsx j hj];exact qI fun i hi=>by rw[HEN.out i hi j hj]⟩
    have HPX:=xgv hp;have hmk:=fun W=>mkV (r:Int) r rfl oM W
    have lt6:=T6.lt;clear hz hX hsx hp;go_upto_region 9 with(fail)
    refine zB ?_;intro W4 hW4;have hb4:Below w3.heap.size w3 W4:=by rw[hW4.out];exact(Below.refl _ _).alloc (xgf _) _
    have hr:qC W4 w3.heap.size (zM r fun _=>0):=by
     rw[hW4.out];obtain⟨_,f1,-,f2⟩:=zCR (w:=w3) (lo:=0) (n:=r) (Nat.zero_le _);injection f1 with f1
     injection f1 with f1
     injection f1 with f1
     rw[f1];exact f2
    have T6:=T6.below hb4;have q3:=hB.size;have hB:=nx hB hb4;have lt3:=T6.lt;clear hW4;obtain⟨ub,hub⟩:∃g,w3.heap.size=g:=⟨_,rfl⟩;have HPX:=xgv (HPX.out.below hb4);rw[hub]at hr q3 lt6 ⊢
    clear hub hb4;go_wp2_with fail
    refine(zMk xv r X W4 HPX.out oM).mono ?_;rintro e w5 ⟨k0,rfl,hk0,hb5⟩;rcases hk0 with⟨-,hall⟩|⟨k,hkr,rfl,hkz⟩
    ·exact absurd (zLn HSX.out hall) HNE.out
    have hr:=hr.below hb5;have T6:=T6.below hb5;have hB:=nx hB hb5;have HKZ:=xgv hkz;clear hkz;go_wp2_with fail
    refine(zBK 1 w5 dE dE).mono ?_;rintro e w6 ⟨o,rfl,ho,hb6⟩;obtain⟨os,oa,ol,oc,rfl⟩:=ho.parts;have hr:=hr.below hb6;have T6:=T6.below hb6;have hB:=nx hB hb6;obtain⟨_,_,_,_,o1,o2,o3,o4,-⟩:=hr.cell (k:=k) (zP hkr);have hset:=hr.set (k:=k) (by rw[zD];exact hkr) ho;rw[zAk]at hset;have HSET:=xgv hset;clear hset ho;go_upto_region 12 with(fail)
    refine zB ?_;intro W7 hW7;have hrx:=HSET.out;rw[<-hW7.out]at hrx;have T6:Blk W7 b6 28 #[.int .i64 r,.int .i64 C,.slice ao r r]:=by
     rw[hW7.out];exact(zV w6 ub (k*2) (k*2+1) b6 _ _ oM).trans T6
    have hB:Below w.heap.size w W7:=by rw[hW7.out];exact zO (zO hB oM _ _) oM _ _
    obtain⟨g1,g2,g3,g4,g5,g6⟩:=T6.three;have HU:=xgv (hrx.1.vec (zD _ _) (xgf _) (by omega:r<=9223372036854775807));clear hrx hW7 HSET o1 o2 o3 o4;go_wp2_with fail
    refine(zCW _ r C (zY r C H) W7 (HBA.out.below hB) hF oM oM (fun row hrow z hz=>by
     obtain⟨a,ha⟩:=List.getElem?_of_mem hrow;obtain⟨b,hb⟩:=List.getElem?_of_mem hz;have har:a<r:=by
      have:=(xge.1 ha).1;simpa[zY]using this
     rw[zAW r C H har]at ha;injection ha with ha
     subst ha;have hbc:b<C:=by
      have:=(xge.1 hb).1;simpa using this
     have hb:(zM C (H a))[b]?=some z:=hb;rw[zP hbc]at hb;injection hb with hb
     rw[<-hb];exact qL (e:=31) (Nat.lt_of_le_of_lt (HHB.out a oM b hbc) (Nat.lt_of_le_of_lt hH0 dE)) dE)).mono ?_
    rintro e w8 ⟨tv,tbs,rfl,ht,hb8⟩;have ht:=ht.mat.1;have hB:=nx hB hb8;have HR2:=xgv (HRR.out (fun i=>if i=k then 1 else 0) fun i hi=>by
     show(if i=k then(1:Int)else 0).natAbs<=H0;split
     ·exact hH1
     ·exact Nat.zero_le _)
    have HTT:=xgv ht;clear ht g1 g2 g3 g4 g5 g6;go_wp2_with fail
    refine(zFG (e:=160) _ _ C r (zY C r fun a b=>ent (zY r C H) b a) (fun i=>if i=k then 1 else 0) w8 HTT.out (zAm _ _ _) (HU.out.below hb8) hC oM oM dE HR2.out.1.st HR2.out.1.pv).mono ?_;rintro e w9 ⟨hsol,hb9⟩;have hB:=nx hB hb9;have HBN:=xgv HR2.out.1.inv;have HLN:=xgv HR2.out.2;have HBD:=xgv ((HR2.out.1.st C (xgf _)).2.2.2);obtain⟨S2,hS2⟩:∃S,zAi r (eqL C (ent (zY C r fun a b=>ent (zY r C H) b a)) fun i=>if i=k then 1 else 0) C=S:=⟨_,rfl⟩;rw[hS2]at hsol HBN HLN HBD;clear hS2 HR2;rcases hsol with⟨i,yv,s1,s2,s3,rfl,hp⟩|⟨qv,hz,rfl,hp⟩
    ·rw[HLN.out]at s1;omega
    have hsq:=zQo HBN.out hz;have hq:zL8 RA C A y (zE7 S2 C S2.pv.length):=zLZ HA.out HSX.out (fun i hi=>by
     have h1:=hsq i hi;rw[qI (g:=fun j=>(H i j:Rat)*zE7 S2 C S2.pv.length j) fun j hj=>by rw[yX hj hi,HEN.out i hi j hj]]at h1;rw[h1];split
     ·exact Rat.intCast_one
     ·exact Rat.intCast_zero) hkr HKZ.out
    have hH:∀t,t<C->HQ 170 (zE7 S2 C S2.pv.length t):=fun t _=>(zLl HBN.out dE oM HBD.out oM t _ (xgf _)).mono dE
    have HQQ:=xgv hq;have HHH:=xgv hH;clear hq hH hsq hz;go_wp2;go_ret;exact⟨_,_,rfl,hp,HQQ.out,HHH.out,hB⟩
  obtain⟨i,hi,rfl,hB,T2⟩:=hrel;obtain⟨c1,c2,c3,c4,c5,c6⟩:=T2.three;by_cases hlt:i<r
  ·have hin:i<n:=by omega
   obtain⟨rb,ra,rn,rc,zs,e1,hbl,hz,p1,hvr⟩:=HRW.out.row (k:=i) (by simp[zY];omega);rw[zAW n C H hin]at hz;injection hz with hz
   subst hz;subst e1;have p1:=zI p1 hB;have HZ:=xgv (zK8 _ C (H i) wr (hvr.below hB) false ⟨fun h=>(by cases h),fun h=>absurd (h (c i) (HN.out.ech.lt i hlt)) (by have:=HN.out.ech.pos i hlt;omega)⟩);clear hvr;go_wp2_with fail
   refine HZ.out.mono ?_;rintro e w1 ⟨rfl,hb1⟩;have T2:=T2.below hb1;clear c1 c2 c3 c4 c5 c6 p1;go_wp2;go_roundw
   case rel=>exact⟨i+1,by omega,by simp,nx hB hb1,T2⟩
   case measure=>simp[intOf];omega
  ·obtain rfl:i=r:=by omega
   by_cases hrn:i<n
   ·obtain⟨rb,ra,rn,rc,zs,e1,hbl,hz,p1,hvr⟩:=HRW.out.row (k:=i) (by simp[zY];omega)
    rw[zAW n C H hrn]at hz;injection hz with hz
    subst hz;subst e1;have p1:=zI p1 hB;have HZ:=xgv (zK8 _ C (H i) wr (hvr.below hB) true ⟨fun _ t ht=>HN.out.zero i (xgf _) hrn t ht,fun _=>rfl⟩);have HBODY:=xgv @body;clear hvr body;go_wp2_with fail
    refine HZ.out.mono ?_;rintro e w1 ⟨rfl,hb1⟩;have T2:=T2.below hb1;have hB:=nx hB hb1;clear c1 c2 c3 c4 c5 c6 p1 hK0 HK0;go_wp2;exact HBODY.out w1 hB T2
   ·have HBODY:=xgv @body
    clear body hK0 HK0;go_wp2;exact HBODY.out wr hB T2
theorem zHQ{n r:Nat}(h:r<=n){f:Nat->Int}(hz:∀i,r<=i->i<n->f i=0):qF n f=qF r f:=by
 induction n with
 |zero=>
  obtain rfl:r=0:=by omega
  rfl
 | succ n ih=>
  rcases Nat.lt_or_ge n r with g|g
  ·obtain rfl:r=n+1:=by omega
   rfl
  ·show qF n f+f n=_
   rw[hz n g oM,ih g fun i h1 h2=>hz i h1 oM,Int.add_zero]
theorem zBe.rowsr{R C r:Nat}{c:Nat->Nat}{A H U V:Nat->Nat->Int}(h:zBe R C r c A H U V):∀a,a<R->∃v:Nat->Int,∀j,j<C->A a j=qF r fun t=>v t*H t j:=fun a ha=>
 ⟨V a,fun j hj=>by rw[h.back a ha j hj,zHQ h.hnf.le fun i h1 h2=>by rw[h.hnf.zero i h1 h2 j hj,Int.mul_zero]]⟩
theorem zBe.sol{R C r:Nat}{c:Nat->Nat}{A H U V:Nat->Nat->Int}(h:zBe R C r c A H U V){y:Nat->Int}(hz:∀b,b<C->zBR C H y R b=0):zJ9 R C A y fun i=>qF R fun t=>zBA C H y t*U t i:=fun j hj=>by
 have h1:=hz j hj;rw[zHF]at h1;have h2:(qF R fun s=>-(zBA C H y s)*H s j)=-1*qF R fun s=>zBA C H y s*H s j:=by
  rw[<-yK];exact zS fun t _=>by rw[Int.neg_mul,Int.neg_one_mul]
 have h3:(qF R fun i=>(qF R fun t=>zBA C H y t*U t i)*A i j)=qF R fun s=>zBA C H y s*H s j:=by
  have e1:(qF R fun i=>(qF R fun t=>zBA C H y t*U t i)*A i j)=qF R fun i=>qF R fun t=>zBA C H y t*(U t i*A i j):=zS fun i hi=>by
   rw[Int.mul_comm,<-yK];exact zS fun t ht=>by rw[Int.mul_comm,Int.mul_assoc]
  rw[e1,zEt];exact zS fun t ht=>by rw[yK,h.mul t ht j hj]
 rw[h3];omega
theorem zBe.nosol{R C r:Nat}{c:Nat->Nat}{A H U V:Nat->Nat->Int}(h:zBe R C r c A H U V){y:Nat->Int}(hz:¬ ∀b,b<C->zBR C H y R b=0):¬ ∃z:Nat->Int,∀j,j<C->y j=qF r fun t=>z t*H t j:=by
 rintro⟨z,hy⟩;refine hz (zLa h.hnf (z:=fun t=>if t<r then z t else 0) fun j hj=>?_);rw[hy j hj,zHQ h.hnf.le fun i h1 h2=>by rw[h.hnf.zero i h1 h2 j hj,Int.mul_zero]];exact zS fun t ht=>by rw[if_pos ht]
theorem zHb.aggU{w:World}{f:Value}{R C:Nat}{H U V:List (List Int)}(h:zHb w f R C H U V):∃o1 n1 k1 o2 n2 k2 o3 n3 k3,f= .agg #[.int .i64 R,.int .i64 C,.slice o1 n1 k1,.int .i64 R,.int .i64 R,.slice o2 n2 k2,.int .i64 R,.int .i64 R,.slice o3 n3 k3]∧
  jE w (.agg #[.int .i64 R,.int .i64 C,.slice o1 n1 k1]) R C H/\jE w (.agg #[.int .i64 R,.int .i64 R,.slice o2 n2 k2]) R R U:=by
 obtain⟨a,b,c,rfl,h1,h2,h3⟩:=h.ex;obtain⟨o1,n1,k1,rfl,-⟩:=id h1;obtain⟨o2,n2,k2,rfl,-⟩:=id h2;obtain⟨o3,n3,k3,rfl,-⟩:=id h3;exact⟨_,_,_,_,_,_,_,_,_,rfl,⟨_,rfl,h1⟩,⟨_,rfl,h2⟩⟩
theorem zJE{n B:Nat}{f:Nat->Int}(h:∀i,i<n->(f i).natAbs<=B):(qF n f).natAbs<=n*B:=by
 induction n with
 |zero=>simp[qF]
 |succ n ih=>
  have h1:=ih fun i hi=>h i oM
  have h2:=h n oM;show(qF n f+f n).natAbs<=_;rw[Nat.add_mul,Nat.one_mul];omega
theorem zHP{M0:Nat}(hM1:1<=M0)(hM0:2*M0<=2^5){R C r:Nat}{c:Nat->Nat}{A:List (List Int)}{H U V:Nat->Nat->Int}(h:zBe R C r c (ent A) H U V)(hR:R<=4)(hH:leM 644972544 R C H)(hU:leM (gk 40 M0) R R U){y:Nat->Int}(hy:∀b,b<C->(y b).natAbs<=1000000):
  ∀i,i<R->∀n,n<=R->(qF n fun t=>zBA C H y t*U t i).natAbs<2^(6*E40)/\∀t,t<R->(zBA C H y t).natAbs<2^140/\(U t i).natAbs<2^(6*E40)/\(zBA C H y t*U t i).natAbs<2^(6*E40):=by
 have hq:∀t,t<R->(zBA C H y t).natAbs<=2^110:=fun t ht=>by
  refine Nat.le_trans (zIH h.hnf hH hy ht) (Nat.le_trans (Nat.mul_le_mul_left _ (Nat.pow_le_pow_right oM (show t<=3 by omega))) dE)
 have hg:=zPU (e:=5) (M0:=M0) (xgf 40) hM1 hM0;have hE:=zEM;have hp:2^112*2^(5*E40)<=2^(6*E40):=by
  rw[<-Nat.pow_add];exact Nat.pow_le_pow_right oM oM
 obtain⟨g,hgg⟩:∃g,2^(5*E40)=g:=⟨_,rfl⟩;obtain⟨B,hB⟩:∃g,2^(6*E40)=g:=⟨_,rfl⟩;rw[hgg]at hg hp;rw[hB]at hp ⊢
 have h110:(2:Nat)^112=4*2^110:=by decide
 have h140:(2:Nat)^110<2^140:=by decide
 intro i hi n hn;have hu:∀t,t<R->(U t i).natAbs<g:=fun t ht=>Nat.lt_of_le_of_lt (hU t ht i hi) hg
 have hm:∀t,t<R->(zBA C H y t*U t i).natAbs<=2^110*(g-1):=fun t ht=>by
  rw[Int.natAbs_mul];exact Nat.mul_le_mul (hq t ht) (by have:=hu t ht;omega)
 have hg1:1<=g:=by omega
 have hs:4*(2^110*(g-1))<B:=by
  rw[h110,Nat.mul_assoc]at hp;have:2^110*(g-1)<2^110*g:=Nat.mul_lt_mul_of_pos_left oM dE;omega
 have hgB:g<=B:=Nat.le_trans (Nat.le_mul_of_pos_left _ dE) hp;obtain⟨K,hK⟩:∃K,2^110*(g-1)=K:=⟨_,rfl⟩;rw[hK]at hm hs;refine⟨?_,fun t ht=>⟨Nat.lt_of_le_of_lt (hq t ht) h140,by have:=hu t ht;omega,by have:=hm t ht;omega⟩⟩;have h1:=zJE (n:=n) (f:=fun t=>zBA C H y t*U t i) fun t ht=>hm t oM
 have h2:n*K<=4*K:=Nat.mul_le_mul_right _ oM;omega
theorem zKM{z:Int}(h:z.natAbs<2^(6*E40)):Sm z:=zNy (Nat.lt_of_lt_of_le h (by
 rw[zKF]
 exact zCK (by have:=zEM;rw[zAR];omega)))
def zER(R C:Nat)(A:Nat->Nat->Int)(y:Nat->Int)(w:World)(u:Value):Prop:=
 (∃xv x,u= .agg #[.bool true,xv,.slice none 0 0]/\qN w xv (zM R x)/\zJ9 R C A y x/\∀i,i<R->(x i).natAbs<2^(6*E40))∨
 (∃yv q,u= .agg #[.bool false,.slice none 0 0,yv]/\jY w yv (zAC C fun t=>prQ (q t))/\zL8 R C A y q/\∀t,t<C->HQ 170 (q t))
theorem zI8{R m C:Nat}(q:Nat->Int)(U:Nat->Nat->Int){j:Nat}(hj:j<C):∀n,n<=R->n<=m->zCb (zM m q) (zY R C U) n j=qF n fun t=>q t*U t j:=by
 intro n;induction n with
 |zero=>intro _ _;rfl
 |succ n ih=>
  intro h1 h2;rw[zDD,ih oM oM,yX oM hj];show _+(zM m q).getD n 0*_=_+_;rw[xgb,zP oM];rfl
theorem zLo{M0:Nat}(hM1:1<=M0)(hM0:2*M0<=2^5){R C r:Nat}{c:Nat->Nat}{A:List (List Int)}{H U V:Nat->Nat->Int}(h:zBe R C r c (ent A) H U V)(hR:R<=4)(hH:leM 644972544 R C H)(hU:leM (gk 40 M0) R R U){y:Nat->Int}(hy:∀b,b<C->(y b).natAbs<=1000000):
  zBu (zM R (zBA C H y)) (zY R R U) R R:=by
 intro j hj t ht;have h1:=zHP hM1 hM0 h hR hH hU hy j hj t oM;have h2:=h1.2 t ht;rw[xgb,zP ht,yX ht hj,zI8 _ _ hj t oM oM];exact⟨zNy (zI1 (Nat.le_of_lt (Nat.lt_of_lt_of_le h2.1 dE))),zKM h2.2.1,zKM h2.2.2,zKM h1.1⟩
theorem zER.below{R C:Nat}{A:Nat->Nat->Int}{y:Nat->Int}{w w':World}{u:Value}(h:zER R C A y w u)(hb:Below w.heap.size w w'):zER R C A y w' u:=by
 rcases h with⟨xv,x,e,h1,h2⟩|⟨yv,q,e,h1,h2⟩
 ·exact .inl ⟨xv,x,e,h1.below hb,h2⟩
 ·exact .inr ⟨yv,q,e,h1.below hb,h2⟩
theorem Tryz.sizeSo:(Tryz.prog.info? 39).map (·.size)=some 3:=by kernel_rfl
theorem zIN{w:World}{r:Nat}{v:Array Value}(hb:Blk w r 39 v)(h3:v.size=3):(loadVar 39 ⟨r,0,none⟩).run Tryz.prog w= .ok (.agg v) w:=
 run_loadVar_row w r _ _ v _ _ hb Tryz.underlying39 rfl (by rw[Tryz.sizeSo,h3])
theorem zDi{fn:Func}{p u:Tmp}(h:fn.results=#[.cell p 39,.tmp u])(tmps:Array Value){W:World}{r:Nat}{v:Array Value}
  (hp:tmps.getD p undef= .pointer (some ⟨r,0,none⟩)) (hb:Blk W r 39 v) (h3:v.size=3):
  (results fn tmps).run Tryz.prog W= .ok (.tuple #[.agg v,tmps.getD u undef]) W:=by
 have hp':tmps[p]?.getD undef= .pointer (some ⟨r,0,none⟩):=by simpa using hp
 simp[results,h,hp',asAddr,zIN hb h3]
theorem jY.off3{w:World}{v:Value}{ps:List (Int × Int)}(h:jY w v ps){b:Nat}{T:TypeId}{cs:Array Value}(hb:Blk w b T cs)(hT:¬ T=tQ)(hU:T≠tU)(x y z:Value):jY (((w.setCell ⟨b,0,none⟩ x).setCell ⟨b,1,none⟩ y).setCell ⟨b,2,none⟩ z) v ps:=by
 obtain⟨ao,n,cap,h1,h2,h3,h4,h5⟩:=h;refine⟨ao,n,cap,h1,h2,h3,h4,fun hn=>?_⟩;obtain⟨g,e,hg⟩:=h5 hn;refine⟨g,e,hg.old (yY _ _ _ _ _ _ ?_) (hb.lext3 hU _ _ _)⟩;rintro rfl;obtain⟨cs',h6,-⟩:=hg;rw[hb]at h6;injection h6 with h6
 injection h6 with _ h6
 exact hT h6
theorem qN.off3{w:World}{v:Value}{zs:List Int}(h:qN w v zs){b:Nat}{T:TypeId}{cs:Array Value}(hb:Blk w b T cs)(hT:¬ T=tI)(hU:T≠tU)(x y z:Value):qN (((w.setCell ⟨b,0,none⟩ x).setCell ⟨b,1,none⟩ y).setCell ⟨b,2,none⟩ z) v zs:=
 h.gone hb hT (fun k hk hn=>yY _ _ _ _ _ _ hn) (hb.lext3 hU _ _ _)
theorem zBe.atG{R C r:Nat}{c:Nat->Nat}{A H U V:Nat->Nat->Int}(h:zBe R C r c A H U V):zBe R C r c A (ent (zY R C H)) U V:=
 ⟨h.hnf.congr fun a ha b hb=>(yX ha hb).symm,fun a ha b hb=>by rw[yX ha hb];exact h.mul a ha b hb,h.inv,fun a ha b hb=>by
  rw[h.back a ha b hb];exact zS fun t ht=>by rw[yX ht hb]⟩
theorem zFQ{M0:Nat}(hM1:1<=M0)(hM0:2*M0<=2^5)(v bv:Value)(R C:Nat)(M:List (List Int))(y:Nat->Int)(w:World)(hm:jE w v R C M)(hF:jT R C M)(hb:qN w bv (zM C y))(hR:R<=4)(hC:C<=4)(hA:leM M0 R C (ent M))(hHb:∀r c H U V,zBe R C r c (ent M) H U V->leM 644972544 R C H)(hy:∀j,j<C->(y j).natAbs<=1000000):
  Calls Tryz.prog 18 #[v,bv] w fun e w'=>∃u,e= .returned (.tuple #[u,.int .i64 0])/\zER R C (ent M) y w' u/\Below w.heap.size w w':=by
 obtain⟨Av,rfl,hrw⟩:=id hm;obtain⟨ao,n,acap,rfl,e2,e3,e4,-⟩:=id hrw;obtain rfl:R=n:=by rw[<-e2,hF.1]
 obtain⟨bo,bn,bc,rfl,f2,f3,f4,-⟩:=id hb;obtain rfl:C=bn:=by rw[<-f2,zD]
 have hdv:decide (qX R C M)=true:=decide_eq_true hF.valid;have HM:=xgv hm;have HB:=xgv hb;have HF:=xgv hF;have HA:=xgv hA;have HY:=xgv hy;have HHB:=xgv hHb;clear hm hrw hb hF hA hy hHb e2 f2;go_enter Tryz.func18,Tryz.ntmps18;go_upto_region 1 with(fail)
 refine zB ?_;intro W0 hW0;obtain⟨hB0,T2,T4,hs0⟩:=qH hW0;obtain⟨c1,c2,c3,c4,c5,c6⟩:=T2.three;clear hW0;go_wp2_with fail
 refine(yF _ R C M W0 (HM.out.below hB0)).mono ?_;rintro e w1 ⟨rfl,hb1⟩;rw[hdv];have T2:=T2.below hb1;have T4:=T4.below hb1;have hB:=nx hB0 hb1;clear c1 c2 c3 c4 c5 c6;obtain⟨c1,c2,c3,c4,c5,c6⟩:=T2.three;go_wp2_with fail
 refine(zHs (M0:=M0) (e:=5) hM1 hM0 dE _ M R C w1 (HM.out.below hB) HF.out hR hC HA.out).mono ?_;rintro e w3 ⟨fv,r,c,H,U,V,rfl,hf,hH,hU,hV,hv,hb3⟩;obtain⟨f1,f2,f3,f4,f5,f6,f7,f8,f9,rfl,hmh,hmu⟩:=hv.aggU;have T4:=T4.below hb3;have hB:=nx hB hb3;have hf:=hf.atG;have hH:leM 644972544 R C (ent (zY R C H)):=HHB.out _ _ _ _ _ hf;have hfm:=zAm R C H;obtain⟨MH,hMH⟩:∃MH,zY R C H=MH:=⟨_,rfl⟩;rw[hMH]at hf hH hfm hmh;have hok:=zJj hf.hnf hR hH HY.out;have hts:=zLo hM1 hM0 hf hR hH hU HY.out;have hss:∀i,i<R->(qF R fun t=>zBA C (ent MH) y t*U t i).natAbs<2^(6*E40):=fun i hi=>(zHP hM1 hM0 hf hR hH hU HY.out i hi R (xgf _)).1
 have HFO:=xgv hf;have HHX:=xgv hH;have HFM:=xgv hfm;have HOK:=xgv hok;have HTS:=xgv hts;have HSS:=xgv hss;have HMH:=xgv hmh;have HMU:=xgv hmu;clear c1 c2 c3 c4 c5 c6 T2 hf hH hU hV hv hmh hmu hMH hfm hok hts hss;go_upto_region 4 with(fail)
 refine zB ?_;intro W5 hW5;obtain⟨hB5,T6,hs5⟩:=zK hW5;have T4:=T4.below hB5;have hB:=nx hB hB5;have HMH:=xgv (HMH.out.below hB5);have HMU:=xgv (HMU.out.below hB5);have HB:=xgv (HB.out.below hB);clear hW5;obtain⟨⟨r0,r1,r2,r3,r4,r5,r6,r7,r8⟩,⟨z0,z1,z2,z3,z4,z5,z6,z7,z8⟩⟩:=T6.all9;go_wp2_with fail
 refine(zGv zKE _ _ R C MH y W5 HMH.out HFM.out HB.out oM oM HOK.out (by have:=zI1 (a:=0) dE;exact this)).mono ?_;rintro e w7 ⟨qv,rv,rfl,hq1,hs1,hb7⟩;have T4:=T4.below hb7;have T6:=T6.below hb7;have hB:=nx hB hb7;have HMH:=xgv (HMH.out.below hb7);have HMU:=xgv (HMU.out.below hb7);have HB:=xgv (HB.out.below hb7);have HQ1:=xgv hq1;clear r0 r1 r2 r3 r4 r5 r6 r7 r8 z0 z1 z2 z3 z4 z5 z6 z7 z8 hq1;obtain⟨⟨r0,r1,r2,r3,r4,r5,r6,r7,r8⟩,⟨z0,z1,z2,z3,z4,z5,z6,z7,z8⟩⟩:=T6.all9;have hzb:∃zb:Bool,zb=true↔∀t,t<C->zBR C (ent MH) y R t=0:=by
  by_cases g:∀t,t<C->zBR C (ent MH) y R t=0
  ·exact⟨true,⟨fun _=>g,fun _=>rfl⟩⟩
  ·exact⟨false,⟨fun h=>absurd h dE,fun h=>absurd h g⟩⟩
 obtain⟨zb,hzb⟩:=hzb;go_wp2_with fail
 refine(zK8 _ C _ w7 hs1 zb hzb).mono ?_;rintro e w8 ⟨rfl,hb8⟩;have T4:=T4.below hb8;have T6:=T6.below hb8;have hB:=nx hB hb8;have HMH:=xgv (HMH.out.below hb8);have HMU:=xgv (HMU.out.below hb8);have HB:=xgv (HB.out.below hb8);have HQ1:=xgv (HQ1.out.below hb8);have HZ:=xgv hzb;clear r0 r1 r2 r3 r4 r5 r6 r7 r8 z0 z1 z2 z3 z4 z5 z6 z7 z8 hs1 hzb;obtain⟨⟨r0,r1,r2,r3,r4,r5,r6,r7,r8⟩,⟨z0,z1,z2,z3,z4,z5,z6,z7,z8⟩⟩:=T6.all9;have lt4:=T4.lt;have q8:=hB.size;obtain⟨d1,d2,d3,d4,d5,d6⟩:=T4.three;cases zb
 ·have hno:=HFO.out.nosol (y:=y) (fun g=>by have:=HZ.out.2 g;cases this)
  have hC1:1<=C:=by
   rcases Nat.eq_zero_or_pos C with g|g
   ·exact absurd ⟨fun _=>0,fun j hj=>by omega⟩ hno
   ·exact g
  have HNO:=xgv hno;clear hno;go_wp2_with fail
  have hmm:zY R C (ent MH)=MH:=(zKk HFM.out).symm;refine(zJs (H0:=644972544) _ _ R R C r c (ent MH) (ent M) y w8 (by rw[hmm];exact HMH.out) HFO.out.hnf HB.out hR hC1 oM dE dE HHX.out (fun j hj=>by have:=HY.out j hj;omega) HFO.out.rowsr HNO.out).mono ?_;rintro e w9 ⟨v9,q,rfl,hp,hsn,hhq,hb9⟩;obtain⟨po,pn,pc,rfl,-⟩:=id hp;have T4:=T4.below hb9;have hB:=nx hB hb9;have HP:=xgv hp;have HSN:=xgv hsn;have HHQ:=xgv hhq;clear r0 r1 r2 r3 r4 r5 r6 r7 r8 z0 z1 z2 z3 z4 z5 z6 z7 z8 d1 d2 d3 d4 d5 d6 hp hsn hhq hmm;obtain⟨d1,d2,d3,d4,d5,d6⟩:=T4.three;go_wp2;refine bodyPost_ret (zDi rfl _ rfl (T4.put3 _ _ _) rfl) rfl ⟨_,rfl,.inr ⟨_,q,rfl,HP.out.off3 T4 dE dE _ _ _,HSN.out,HHQ.out⟩,zO (zO (zO hB oM 0 _) oM 1 _) oM 2 _⟩
 ·have hsol:=HFO.out.sol (y:=y) (HZ.out.1 rfl)
  have HSOL:=xgv hsol;clear hsol;go_wp2_with fail
  refine(zFY _ _ (zM R (zBA C (ent MH) y)) (zY R R U) R R w8 HQ1.out HMU.out (zD _ _) (zAm _ _ _) oM oM HTS.out).mono ?_;rintro e w9 ⟨v9,rfl,hnr,hb9⟩;obtain⟨xg,rfl,hxg,hxr⟩:=hnr;have T4:=T4.below hb9;have hB:=nx hB hb9;have hxe:zM R (zCb (zM R (zBA C (ent MH) y)) (zY R R U) R)=zM R fun i=>qF R fun t=>zBA C (ent MH) y t*U t i:=zQ fun i hi=>zI8 _ _ hi R (xgf _) (xgf _)
  rw[hxe]at hxr;have HXR:=xgv hxr;clear r0 r1 r2 r3 r4 r5 r6 r7 r8 z0 z1 z2 z3 z4 z5 z6 z7 z8 d1 d2 d3 d4 d5 d6 hxr hxe;obtain⟨d1,d2,d3,d4,d5,d6⟩:=T4.three;go_wp2;have hvx:qN w9 (.slice (some ⟨xg,0,none⟩) R R) (zM R fun i=>qF R fun t=>zBA C (ent MH) y t*U t i):=HXR.out.vec (zD _ _) (xgf _) oM;refine bodyPost_ret (zDi rfl _ rfl (T4.put3 _ _ _) rfl) rfl ⟨_,rfl,.inl ⟨_,_,rfl,hvx.off3 T4 dE dE _ _ _,HSOL.out,HSS.out⟩,zO (zO (zO hB oM 0 _) oM 1 _) oM 2 _⟩
theorem zFP(v bv:Value)(R C:Nat)(M:List (List Int))(y:Nat->Int)(w:World)(hm:jE w v R C M)(hF:jT R C M)(hb:qN w bv (zM C y))(hR:R<=4)(hC:C<=4)(hA:leM 9 R C (ent M))(hy:∀j,j<C->(y j).natAbs<=1000000):
  Calls Tryz.prog 18 #[v,bv] w fun e w'=>∃u,e= .returned (.tuple #[u,.int .i64 0])/\zER R C (ent M) y w' u/\Below w.heap.size w w':=
 zFQ (M0:=9) dE dE v bv R C M y w hm hF hb hR hC hA (fun r c H U V h=>h.bound hR dE hA) hy
theorem zJ5(v:Value)(z:Int)(w:World)(h:zH w v z):Calls Tryz.prog 173 #[v] w fun e w'=>e= .returned (.bool false)/\Below w.heap.size w w':=by
 obtain⟨s1,a1,l1,k1,rfl⟩:=h.parts;have H:=xgv h;clear h;go_enter Tryz.func173,Tryz.ntmps173;go_upto_region 1 with(fail)
 refine zB ?_;intro W0 hW0;obtain⟨hB0,T1,hs0⟩:=zK hW0;obtain⟨c1,c2,c3,c4⟩:=T1.two;clear hW0;go_wp2_with fail
 refine(zDJ _ z W0 (H.out.ext (lx hB0))).mono ?_;rintro e w1 ⟨rfl,hb1⟩;go_wp2;go_ret;exact⟨rfl,nx hB0 hb1⟩
theorem zMi(v:Value)(zs:List Int)(w:World)(h:qN w v zs):
  Calls Tryz.prog 237 #[v,.func (.func 173) #[] #[]] w fun e w'=>e= .returned (.int .i64 (-1))/\Below w.heap.size w w':=by
 obtain⟨ao,n,cap,rfl,h2,h3,h4,-⟩:=id h;have HL:=xgv h2;have H:=xgv h;clear h h2;go_enter Tryz.func237,Tryz.ntmps237;go_wp2;go_loopw [8] (fun iv wr=>∃i:Nat,i<=n/\iv= .int .i64 i/\Below w.heap.size w wr) (fun iv _=>n-(intOf iv).toNat)
 case atStart=>exact⟨0,by omega,rfl,Below.refl _ _⟩
 case round=>
  obtain⟨i,hi,rfl,hB⟩:=hrel;by_cases hlt:i<n
  ·obtain⟨b,z,s,a,l,c,rfl,hbl,-,c1,c2,hv⟩:=(H.out.below hB).cell (k:=i) (by rw[HL.out];exact hlt)
   have HV:=xgv hv;clear hv;go_wp2_with fail
   refine(zJ5 _ z wr HV.out).mono ?_;rintro e w1 ⟨rfl,hb1⟩;go_wp2;go_roundw
   case rel=>exact⟨i+1,by omega,by simp,nx hB hb1⟩
   case measure=>simp[intOf];omega
  ·obtain rfl:i=n:=by omega
   go_wp2;go_ret;exact⟨rfl,hB⟩
theorem zKW(v:Value)(zs:List Int)(w:World)(h:qN w v zs):
  Calls Tryz.prog 172 #[v,.func (.func 173) #[] #[]] w fun e w'=>e= .returned (.bool false)/\Below w.heap.size w w':=by
 obtain⟨ao,n,cap,rfl,h2,h3,h4,-⟩:=id h;have H:=xgv h;clear h h2;go_enter Tryz.func172,Tryz.ntmps172;go_wp2_with fail
 refine(zMi _ zs w H.out).mono ?_;rintro e w1 ⟨rfl,hb1⟩;go_wp2;go_ret;exact⟨rfl,hb1⟩
theorem zAN(v:Value)(zs:List Int)(w:World)(h:qN w v zs):Calls Tryz.prog 80 #[v] w fun e w'=>e= .returned (.bool true)/\Below w.heap.size w w':=by
 obtain⟨ao,n,cap,rfl,h2,h3,h4,-⟩:=id h;have H:=xgv h;clear h h2;go_enter Tryz.func80,Tryz.ntmps80;go_wp2_with fail
 refine(zKW _ zs w H.out).mono ?_;rintro e w1 ⟨rfl,hb1⟩;go_wp2;go_ret;exact⟨rfl,hb1⟩
theorem zHG(v:Value)(p:Int × Int)(w:World)(h:jM w v p)(s1:Sm p.1)(s2:Sm p.2):Calls Tryz.prog 178 #[v] w fun e w'=>∃u,e= .returned u/\u= .bool (!zGV p)/\Below w.heap.size w w':=by
 have H:=xgv h;obtain⟨n1,a1,l1,k1,n2,a2,l2,k2,rfl,i1,i2⟩:=id h;obtain⟨b,hb⟩:∃b,zGV p=b:=⟨_,rfl⟩;have HI:qE (∀(v:Value) (w:World),jM w v p->Calls Tryz.prog 179 #[v] w fun e w'=>∃u,e= .returned u/\u= .bool b/\Below w.heap.size w w'):=⟨fun v w hv=>hb ▸ zJt v p w hv s1 s2⟩;rw[hb];clear h i1 i2 hb;go_enter Tryz.func178,Tryz.ntmps178;go_upto_region 1 with(fail)
 refine zB ?_;intro W0 hW0;obtain⟨hB0,T1,hs0⟩:=zK hW0;obtain⟨c1,c2,c3,c4,c5,c6,c7,c8⟩:=T1.four;clear hW0;go_wp2_with fail
 refine(HI.out _ W0 (H.out.below hB0)).mono ?_;rintro e w1 ⟨u,rfl,rfl,hb1⟩;go_wp2;go_ret;exact⟨_,rfl,rfl,nx hB0 hb1⟩
theorem zMj(v:Value)(ps:List (Int × Int))(w:World)(h:jY w v ps)(hs:∀p∈ps,Sm p.1/\Sm p.2):
  Calls Tryz.prog 163 #[v,.func (.func 178) #[] #[]] w fun e w'=>∃k:Int,e= .returned (.int .i64 k)/\((k=-1/\zC3 ps=true)∨(0<=k/\zC3 ps=false))/\Below w.heap.size w w':=by
 obtain⟨ao,n,cap,rfl,h2,h3,h4,-⟩:=id h;have HL:=xgv h2;have H:=xgv h;have HS:=xgv hs;clear h h2 hs;go_enter Tryz.func163,Tryz.ntmps163;go_wp2;go_loopw [8] (fun iv wr=>∃i:Nat,i<=n/\iv= .int .i64 i/\Below w.heap.size w wr/\qE (zC3 (ps.take i)=true)) (fun iv _=>n-(intOf iv).toNat)
 case atStart=>exact⟨0,by omega,rfl,Below.refl _ _,⟨rfl⟩⟩
 case round=>
  obtain⟨i,hi,rfl,hB,hz⟩:=hrel;by_cases hlt:i<n
  ·obtain⟨b,p,s1,a1,l1,k1,s2,a2,l2,k2,rfl,hbl,hpk,q1,q2,q3,q4,i1,i2⟩:=(H.out.below hB).cell (k:=i) (by rw[HL.out];exact hlt)
   have HY:qE (jM wr (.agg #[.bool s1,.slice a1 l1 k1,.bool s2,.slice a2 l2 k2]) p):=⟨⟨_,_,_,_,_,_,_,_,rfl,i1,i2⟩⟩;have HPK:=xgv hpk;have HSP:=xgv (HS.out p (xgd hpk));clear i1 i2 hpk;go_wp2_with fail
   refine(zHG _ p wr HY.out HSP.out.1 HSP.out.2).mono ?_;rintro e w1 ⟨u,rfl,rfl,hb1⟩;cases hc:zGV p with
   |true=>
    have hzz:=xgv (zG0 hz.out HPK.out hc);clear hc;go_wp2;go_roundw
    case rel=>exact⟨i+1,by omega,by simp,nx hB hb1,hzz⟩
    case measure=>simp[intOf];omega
   |false=>
    have HC:qE (zC3 ps=false):=⟨List.all_eq_false.2 ⟨p,xgd HPK.out,by rw[hc];decide⟩⟩;clear hc;go_wp2;go_ret;exact⟨_,rfl,.inr ⟨by omega,HC.out⟩,nx hB hb1⟩
  ·obtain rfl:i=n:=by omega
   have HC:qE (zC3 ps=true):=⟨by
    have:=hz.out;rwa[List.take_of_length_le (by rw[HL.out];omega)]at this⟩
   go_wp2;go_ret;exact⟨_,rfl,.inl ⟨rfl,HC.out⟩,hB⟩
theorem zKX(v:Value)(ps:List (Int × Int))(w:World)(h:jY w v ps)(hs:∀p∈ps,Sm p.1/\Sm p.2):
  Calls Tryz.prog 177 #[v,.func (.func 178) #[] #[]] w fun e w'=>∃u,e= .returned u/\u= .bool (!zC3 ps)/\Below w.heap.size w w':=by
 obtain⟨ao,n,cap,rfl,h2,h3,h4,-⟩:=id h;have H:=xgv h;have HS:=xgv hs;obtain⟨lb,hlb⟩:∃lb,zC3 ps=lb:=⟨_,rfl⟩;rw[hlb];have HLB:=xgv hlb;clear h h2 hs hlb;go_enter Tryz.func177,Tryz.ntmps177;go_wp2_with fail
 refine(zMj _ ps w H.out HS.out).mono ?_;rintro e w1 ⟨k,rfl,hk,hb1⟩;rcases hk with⟨rfl,hk⟩|⟨h0,hk⟩
 ·obtain rfl:lb=true:=by rw[<-HLB.out,hk]
  clear hk;go_wp2;go_ret;exact⟨_,rfl,rfl,hb1⟩
 ·obtain rfl:lb=false:=by rw[<-HLB.out,hk]
  clear hk;have:¬ k<0:=by omega
  go_wp2;go_ret;exact⟨_,rfl,by simp[h0],hb1⟩
theorem zIR(v1 v2:Value)(x y:Int)(w:World)(h1:zH w v1 x)(h2:zH w v2 y):Calls Tryz.prog 175 #[v1,v2] w fun e w'=>∃u,e= .returned u/\u= .bool (decide (x=y))/\Below w.heap.size w w':=by
 obtain⟨s1,a1,l1,k1,rfl⟩:=h1.parts;obtain⟨s2,a2,l2,k2,rfl⟩:=h2.parts;have H1:=xgv h1;have H2:=xgv h2;obtain⟨k,hk⟩:∃k,qJ x y=k:=⟨_,rfl⟩;obtain⟨b,hb⟩:∃b,decide (x=y)=b:=⟨_,rfl⟩;have HKB:qE (decide (k=0)=b):=⟨by
  rw[<-hk,<-hb];unfold qJ;apply decide_eq_decide.2;constructor<;>intro h<;>(split at*<;>try split at*)<;>omega⟩
 have HC:qE (∀(v1 v2:Value) (w:World),zH w v1 x->zH w v2 y->Calls Tryz.prog 176 #[v1,v2] w fun e w'=>e= .returned (.int .i64 k)/\Below w.heap.size w w'):=⟨fun v1 v2 w h1 h2=>(zHg v1 v2 _ _ w h1.weak h2.weak).mono fun e w' ⟨x,y⟩=>⟨by rw[x,hk],y⟩⟩;rw[hb];clear h1 h2 hk hb;go_enter Tryz.func175,Tryz.ntmps175;go_upto_region 1 with(fail)
 refine zB ?_;intro W0 hW0;obtain⟨hB0,T1,T2,hs0⟩:=qH hW0;obtain⟨c1,c2,c3,c4⟩:=T1.two;obtain⟨d1,d2,d3,d4⟩:=T2.two;clear hW0;go_wp2_with fail
 refine(HC.out _ _ W0 (H1.out.ext (lx hB0)) (H2.out.ext (lx hB0))).mono ?_;rintro e w1 ⟨rfl,hb1⟩;go_wp2;go_ret;refine⟨_,rfl,?_,nx hB0 hb1⟩;rw[<-HKB.out];rfl
theorem zOK(v1 v2:Value)(xs ys:List Int)(w:World)(h1:qN w v1 xs)(h2:qN w v2 ys):
  Calls Tryz.prog 174 #[v1,v2,.func (.func 175) #[] #[]] w fun e w'=>∃u,e= .returned u/\u= .bool (decide (xs=ys))/\Below w.heap.size w w':=by
 obtain⟨ao,n,cap,rfl,e2,e3,e4,-⟩:=id h1;obtain⟨bo,m,bcap,rfl,f2,f3,f4,-⟩:=id h2;have HX:=xgv e2;have HY:=xgv f2;have H1:=xgv h1;have H2:=xgv h2;obtain⟨ans,hans⟩:∃ans,decide (xs=ys)=ans:=⟨_,rfl⟩;have HA:=xgv hans;rw[hans];clear e2 f2 h1 h2 hans;by_cases hlen:(n:Int)=m
 ·obtain rfl:n=m:=by omega
  go_enter Tryz.func174,Tryz.ntmps174;go_wp2;go_loopw [17] (fun iv wr=>∃k:Nat,k<=n/\iv= .int .i64 k/\Below w.heap.size w wr/\qE (xs.take k=ys.take k)) (fun i _=>n-(intOf i).toNat)
  case atStart=>exact⟨0,by omega,rfl,Below.refl _ _,⟨by rw[List.take_zero,List.take_zero]⟩⟩
  case round=>
   obtain⟨k,hk,rfl,hB,hsame⟩:=hrel;by_cases hlt:k<n
   ·obtain⟨b,z,s,a,l,c,rfl,hbl,hz,c1,c2,hv⟩:=(H1.out.below hB).cell (k:=k) (by rw[HX.out];exact hlt)
    obtain⟨b',z',s',a',l',c',rfl,hbl',hz',d1,d2,hv'⟩:=(H2.out.below hB).cell (k:=k) (by rw[HY.out];exact hlt);have HZ:=xgv (And.intro hz hz');have HV:=xgv (And.intro hv hv');clear hz hz' hv hv';go_upto_region 6 with(fail)
    refine zB ?_;intro W1 hW1;obtain⟨hb1,T8,hs1⟩:=zK hW1;have d1:=zI d1 hb1;have d2:=zI d2 hb1;have HV:=xgv (And.intro (HV.out.1.ext (lx hb1)) (HV.out.2.ext (lx hb1)));have hB:=nx hB hb1;clear hW1 c1 c2;go_upto_region 7 with(fail)
    refine zB ?_;intro W2 hW2;obtain⟨hb2,T9,hs2⟩:=zK hW2;have T8:=T8.below hb2;have HV:=xgv (And.intro (HV.out.1.ext (lx hb2)) (HV.out.2.ext (lx hb2)));have hB:=nx hB hb2;obtain⟨c1,c2,c3,c4⟩:=T8.two;obtain⟨z1,z2,z3,z4⟩:=T9.two;clear hW2 d1 d2;go_wp2_with fail
    refine(zIR _ _ z z' W2 HV.out.1 HV.out.2).mono ?_;rintro e w1 ⟨_,rfl,rfl,hb3⟩;cases hz:decide (z=z')
    ·have hne:=zCs HZ.out.1 HZ.out.2 (of_decide_eq_false hz)
     have HN:qE (ans=false):=⟨by rw[<-HA.out];exact decide_eq_false hne⟩;clear hne hz;go_wp2;go_ret;exact⟨_,rfl,by rw[HN.out];rfl,nx hB hb3⟩
    ·have HT:=xgv (zEu hsame.out HZ.out.1 HZ.out.2 (of_decide_eq_true hz))
     clear hz;go_wp2;go_roundw
     case rel=>exact⟨k+1,by omega,by simp,nx hB hb3,HT⟩
     case measure=>simp[intOf];omega
   ·obtain rfl:k=n:=by omega
    have HT:qE (ans=true):=⟨by
     rw[<-HA.out];have:=hsame.out;rw[List.take_of_length_le (by rw[HX.out];omega),List.take_of_length_le (by rw[HY.out];omega)]at this;exact decide_eq_true this⟩
    go_wp2;go_ret;exact⟨_,rfl,by rw[HT.out];rfl,hB⟩
 ·have HN:qE (ans=false):=⟨by
   rw[<-HA.out];exact decide_eq_false fun e=>by
    have h1:=HX.out;have h2:=HY.out;rw[e]at h1;omega⟩
  go_enter Tryz.func174,Tryz.ntmps174;go_wp2;go_ret;exact⟨_,rfl,by rw[HN.out];rfl,Below.refl _ _⟩
theorem zIf{e h:Nat}(bv yv:Value)(C:Nat)(x:Nat->Int)(q:Nat->Rat)(w:World)(hx:qN w bv (zM C x))(hy:jY w yv (zAC C fun t=>prQ (q t)))(hxs:∀j,j<C->(x j).natAbs<2^h)(hh:1<=h)(hq:∀j,j<C->HQ e (q j))(hC:C<=1000)(he:e+h+1<=900):
  Calls Tryz.prog 180 #[bv,yv] w (zAT w (zBU C x q)):=by
 obtain⟨xo,xn,xc,rfl,f2,f3,f4,-⟩:=id hx;obtain rfl:C=xn:=by rw[<-f2,zD]
 obtain⟨yo,yn,yc,rfl,g2,g3,g4,-⟩:=id hy;obtain rfl:C=yn:=by rw[<-g2,qG]
 have HX:=xgv hx;have HY:=xgv hy;have HXS:=xgv hxs;have HQS:=xgv hq;have HE:qE (∀n,n<=C->n*(e+h+1)+1<=900001):=⟨fun n hn=>by
  have:n*(e+h+1)<=1000*900:=Nat.mul_le_mul oM he;omega⟩
 clear hx hy hxs hq f2 g2;go_enter Tryz.func180,Tryz.ntmps180;go_upto_region 1 with(fail)
 refine zB ?_;intro W0 hW0;obtain⟨hB0,T4,hs0⟩:=zK hW0;clear hW0;go_wp2_with fail
 refine(zDj _ 0 W0 (zAD W0) (qL (e:=1) dE dE)).mono ?_;rintro e1 w1 ⟨rv,rfl,⟨s5,a5,l5,k5,s6,a6,l6,k6,rfl,i5,i6⟩,hb1⟩;have T4:=T4.below hb1;have hB:=nx hB0 hb1;have I:jN w1 (.agg #[.bool s5,.slice a5 l5 k5,.bool s6,.slice a6 l6 k6]) 0:=⟨_,_,_,_,_,_,_,_,rfl,i5,i6⟩;have HI:=xgv I;clear i5 i6 I;go_upto_region 2 with(fail)
 refine zB ?_;intro W2 hW2;have hb2:Below w1.heap.size w1 W2:=by rw[hW2.out];exact(Below.refl _ _).alloc (xgf _) _
 have T5:Blk W2 w1.heap.size tQ #[.bool s5,.slice a5 l5 k5,.bool s6,.slice a6 l6 k6]:=by rw[hW2.out];exact Blk.new _ _ _
 have T4:=T4.below hb2;have HI:=xgv (HI.out.below hb2);have q1:=hB.size;have q0:=hB0.size;have hB:=nx hB hb2;have hlt5:w.heap.size<w1.heap.size:=by have:=hb1.size;omega
 obtain⟨b5,hb5⟩:∃g,w1.heap.size=g:=⟨_,rfl⟩;rw[hb5]at T5 hlt5 ⊢
 clear hW2 hb5 q1 q0 hb2;go_wp2;go_loopw [12] (fun iv wr=>∃i:Nat,i<=C/\iv= .int .i64 i/\Below w.heap.size w wr/\Blk wr w.heap.size tQ #[.bool false,.slice none 0 0,.bool false,.slice none 0 0]/\∃(y1 y3:Bool) (y2 y4:Option Addr) (l2 c2 l4 c4:Nat),Blk wr b5 tQ #[.bool y1,.slice y2 l2 c2,.bool y3,.slice y4 l4 c4]/\qE (jN wr (.agg #[.bool y1,.slice y2 l2 c2,.bool y3,.slice y4 l4 c4]) (jK i fun j=>(x j:Rat)*q j))) (fun iv _=>C-(intOf iv).toNat)
 case atStart=>exact⟨0,by omega,rfl,hB,T4,_,_,_,_,_,_,_,_,T5,HI⟩
 case round=>
  clear hB T4 T5 HI;obtain⟨i,hi,rfl,hB,T4,y1,y3,y2,y4,l2,c2,l4,c4,T5,HI⟩:=hrel;have lt5:=T5.lt;by_cases hlt:i<C
  ·obtain⟨bx,z,s1,o1,n1,k1,rfl,hbx,hz,d1,d2,hv⟩:=(HX.out.below hB).cell (k:=i) (by rw[zD];exact hlt)
   obtain⟨by_,s,o,l,c,s',o',l',c',rfl,hby,e1,e2,e3,e4,hrat⟩:=zGH (HY.out.below hB) hlt;rw[zP hlt]at hz;injection hz with hz
   subst hz;have HXI:=xgv hv;have HQI:=xgv hrat;have HBX:=xgv (HXS.out i hlt);have HBQ:=xgv (HQS.out i hlt);have HSB:=xgv (HQ.dot (n:=i) (fun j hj=>HXS.out j oM) hh (fun j hj=>HQS.out j oM));have HSE:=xgv (HE.out i oM);obtain⟨SS,hSS⟩:∃SS,(jK i fun j=>(x j:Rat)*q j)=SS:=⟨_,rfl⟩;have HSS:=xgv hSS;rw[hSS]at HI HSB;obtain⟨xi,hxi⟩:∃xi,x i=xi:=⟨_,rfl⟩;obtain⟨qi,hqi⟩:∃qi,q i=qi:=⟨_,rfl⟩;have HNX:qE ((jK (i+1) fun j=>(x j:Rat)*q j)=SS+(xi:Rat)*qi):=⟨by rw[<-hSS,<-hxi,<-hqi];rfl⟩;rw[hxi]at HXI HBX;rw[hqi]at HQI HBQ;obtain⟨r1,r2,r3,r4,r5,r6,r7,r8⟩:=T5.four;have hl1:=qY (xi:Rat);have hl2:=qY ((xi:Rat)*qi);have hl3:=qY (SS+(xi:Rat)*qi);have HXM:qE (Sm xi):=⟨qL HBX.out oM⟩;clear hv hrat hSS hxi hqi;go_upto_region 5 with(fail)
   refine zB ?_;intro W3 hW3;obtain⟨hb3,T7,hs3⟩:=zK hW3;have e1:=zI e1 hb3;have e2:=zI e2 hb3;have e3:=zI e3 hb3;have e4:=zI e4 hb3;have HXI:=xgv (HXI.out.ext (lx hb3));have HQI:=xgv (HQI.out.below hb3);have HI:=xgv (HI.out.below hb3);have T4:=T4.below hb3;have T5:=T5.below hb3;have hB:=nx hB hb3;obtain⟨b7,hb7⟩:∃g,wr.heap.size=g:=⟨_,rfl⟩;rw[hb7]at T7 lt5 ⊢
   obtain⟨z1,z2,z3,z4⟩:=T7.two;clear hW3 d1 d2 hb7 r1 r2 r3 r4 r5 r6 r7 r8 hs3;obtain⟨r1,r2,r3,r4,r5,r6,r7,r8⟩:=T5.four;refine zC 9 rfl (RV W3 _ [E 0 17 (.agg #[.bool y1,.slice y2 l2 c2,.bool y3,.slice y4 l4 c4]),E 1 18 (.agg #[.bool s1,.slice o1 n1 k1]),⟨2,19,fun w v=>jN w v (xi:Rat)⟩,VSl 3 20 by_ C yc,VN 4 21 i,VP 5 22 by_ (i*4),E 6 23 (.agg #[.bool s,.slice o l c,.bool s',.slice o' l' c']),⟨7,24,fun w v=>jN w v ((xi:Rat)*qi)⟩,⟨8,25,fun w v=>jN w v (SS+(xi:Rat)*qi)⟩]) kR RV.start (RV.fin kR ?fin1) ?steps1
   case steps1=>
    (repeat' constructor)<;>(intro L T wS hL hd hcl hI K hK;try refine zA rfl ?_)
    ·have zt:=hI.k 5 rfl kR
     have cc0:=hI.cell r1;have cc1:=hI.cell r2;have cc2:=hI.cell r3;have cc3:=hI.cell r4;exact xgu
    ·have zt:=hI.k 7 rfl kR
     have cc0:=hI.cell z1;have cc1:=hI.cell z2;exact xgu
    ·have zt1:=hI.e mm1 (hd 1)
     go_simp;refine(zDj _ xi _ (HXI.out.ext (lx hI.bel)) HXM.out).mono ?_;rintro e wa ⟨v,rfl,hv,hba⟩;exact hK _ _ ((hI.world hba).y mm2 hv)
    ·exact xgs (hI.k 1 rfl kR)
    ·exact xgs (hI.k 6 rfl kR)
    ·exact xgt (hI.e mm3 (hd 3)) (hI.e mm4 (hd 4))
    ·have zt5:=hI.e mm5 (hd 5)
     have cc0:=hI.cell e1;have cc1:=hI.cell e2;have cc2:=hI.cell e3;have cc3:=hI.cell e4;exact xgu
    ·obtain⟨v2,zt2,h2⟩:=hI.v mm2 (hd 2)
     have zt6:=hI.e mm6 (hd 6);go_simp;refine(zNJ (a:=h) (b:=e) _ _ _ qi _ h2 (HQI.out.below hI.bel) (HQ.int HBX.out hh) HBQ.out oM).mono ?_;rintro e wa ⟨v,rfl,hv,hba⟩;exact hK _ _ ((hI.world hba).y mm7 hv)
    ·have zt0:=hI.e mm0 (hd 0)
     obtain⟨v7,zt7,h7⟩:=hI.v mm7 (hd 7);go_simp;refine(zNE _ _ SS _ _ (HI.out.below hI.bel) h7 HSB.out (HQ.mul (HQ.int HBX.out hh) HBQ.out) (by have:=HSE.out;omega)).mono ?_;rintro e wa ⟨v,rfl,hv,hba⟩;exact hK _ _ ((hI.world hba).y mm8 hv)
   intro w2 hbw2 T hT;simp only[Fin,E,EI,VP,VSl,VN,xgg,xgh,xgi,xgj]at hT;obtain⟨va2,ha2,va7,ha7,va8,ha8,rfl⟩:=hT;simp only[xgl,xgk];obtain⟨s5,a5,l5,k5,s6,a6,l6,k6,rfl,i5,i6⟩:=(show jN _ _ _ from ha8);have I:jN w2 (.agg #[.bool s5,.slice a5 l5 k5,.bool s6,.slice a6 l6 k6]) (SS+(xi:Rat)*qi):=⟨_,_,_,_,_,_,_,_,rfl,i5,i6⟩;have HI2:=xgv I;have T4:=T4.below hbw2;have T5:=T5.below hbw2;have hB:=nx hB hbw2;clear i5 i6 I r1 r2 r3 r4 r5 r6 r7 r8 e1 e2 e3 e4 ha2 ha7 z1 z2 z3 z4;obtain⟨r1,r2,r3,r4,r5,r6,r7,r8⟩:=T5.four;go_wp2;go_roundw
   case rel=>exact⟨i+1,by omega,by simp,jB hB oM 0 _ _ _ _,(zDG _ _ _ _ _ _ _ _ oM).trans T4,_,_,_,_,_,_,_,_,T5.put4 _ _ _ _,⟨by rw[HNX.out];exact HI2.out.ext (T5.lext4 dE 0 _ _ _ _)⟩⟩
   case measure=>simp[intOf];omega
  ·obtain rfl:i=C:=by omega
   obtain⟨r1,r2,r3,r4,r5,r6,r7,r8⟩:=T5.four;obtain⟨t1,t2,t3,t4,t5,t6,t7,t8⟩:=T4.four;go_wp2;have hx:=T4.lext4 dE 0 (.bool y1) (.slice y2 l2 c2) (.bool y3) (.slice y4 l4 c4);exact qP rfl rfl rfl (T4.put4 _ _ _ _) (HI.out.ext hx) (jB hB oM 0 _ _ _ _)
theorem zGL(zs:List Int)(M:List (List Int))(m j:Nat):zCb zs M m j=qF m fun i=>zs.getD i 0*ent M i j:=by
 unfold zCb;rw[zDk]
theorem zJz(xv mv bv:Value)(zs:List Int)(M:List (List Int))(R C:Nat)(y:Nat->Int)(w:World)(hx:qN w xv zs)(hm:jE w mv R C M)(hb:qN w bv (zM C y))(hl:zs.length=R)(hF:jT R C M)(hR:R<=1000000)(hC:C<=1000000)(hS:zBu zs M R C):
  Calls Tryz.prog 83 #[xv,mv,bv] w fun e w'=>∃u,e= .returned u/\u= .bool (decide (zM C (fun j=>qF R fun i=>zs.getD i 0*ent M i j)=zM C y))/\Below w.heap.size w w':=by
 have HM:=xgv hm;obtain⟨Av,rfl,hrw⟩:=id hm;obtain⟨ao,mn,acap,rfl,e2,e3,e4,-⟩:=id hrw;have HX:=xgv hx;have HB:=xgv hb;have HF:=xgv hF;have HS:=xgv hS;have HL:=xgv hl;have he:zM C (fun j=>qF R fun i=>zs.getD i 0*ent M i j)=zM C (zCb zs M R):=zQ fun j _=>(zGL zs M R j).symm
 rw[he];obtain⟨xo,xn,xc,rfl,g2,g3,g4,-⟩:=id hx;obtain⟨bo,bn,bc,rfl,f2,f3,f4,-⟩:=id hb;clear hm hrw hx hb hF hS hl he e2 g2 f2;go_enter Tryz.func83,Tryz.ntmps83;go_upto_region 1 with(fail)
 refine zB ?_;intro W0 hW0;obtain⟨hB0,T4,hs0⟩:=zK hW0;clear hW0;go_wp2_with fail
 refine(zAN _ zs W0 (HX.out.below hB0)).mono ?_;rintro e w1 ⟨rfl,hb1⟩;have T4:=T4.below hb1;have hB:=nx hB0 hb1;obtain⟨c1,c2,c3,c4,c5,c6⟩:=T4.three;go_wp2_with fail
 refine(zFY _ _ zs M R C w1 (HX.out.below hB) (HM.out.below hB) HL.out HF.out hR hC HS.out).mono ?_;rintro e w2 ⟨u,rfl,⟨g,rfl,hg,hr⟩,hb2⟩;have hB:=nx hB hb2;have HU:=xgv (hr.vec (zD _ _) (xgf _) oM);clear hr c1 c2 c3 c4 c5 c6;go_wp2_with fail
 refine(zOK _ _ _ _ w2 HU.out (HB.out.below hB)).mono ?_;rintro e w3 ⟨_,rfl,rfl,hb3⟩;go_wp2;go_ret;exact⟨_,rfl,rfl,nx hB hb3⟩
theorem zIJ{e h:Nat}(yv mv bv:Value)(R C:Nat)(M:List (List Int))(y:Nat->Int)(ps:List (Int × Int))(w:World)(hm:jE w mv R C M)(hF:jT R C M)(hb:qN w bv (zM C y))(hp:jY w yv ps)(hl:ps.length=C)(hC:C<=1000)
  (hps:∀p∈ps,p.1.natAbs<2^e/\p.2.natAbs<2^e) (hM:∀a,a<R->∀b,b<C->(ent M a b).natAbs<2^h) (hy:∀j,j<C->(y j).natAbs<2^h) (hh:1<=h) (he:e+h+1<=900):
  Calls Tryz.prog 85 #[yv,mv,bv] w fun e w'=>∃u,e= .returned u/\u= .bool (zC3 ps && ((List.range R).all fun i=>isZ (zBU C (ent M i) (rqL ps))) && !isZ (zBU C y (rqL ps)))/\Below w.heap.size w w':=by
 have HM:=xgv hm;obtain⟨Av,rfl,hrw⟩:=id hm;obtain⟨ao,mn,acap,rfl,e2,e3,e4,-⟩:=id hrw;obtain rfl:R=mn:=by rw[<-e2,hF.1]
 have HRW:=xgv hrw;have HF:=xgv hF;have HB:=xgv hb;have HP:=xgv hp;have HPB:=xgv hps;have HMB:=xgv hM;have HYB:=xgv hy;obtain⟨bo,bn,bc,rfl,f2,f3,f4,-⟩:=id hb;obtain rfl:C=bn:=by rw[<-f2,zD]
 obtain⟨yo,yn,yc,rfl,k2,k3,k4,-⟩:=id hp;obtain rfl:C=yn:=by omega
 have HLN:=xgv hl;have HSM:qE (∀p∈ps,Sm p.1/\Sm p.2):=⟨fun p hp=>⟨qL (hps p hp).1 oM,qL (hps p hp).2 oM⟩⟩;obtain⟨ans,hans⟩:∃ans,(zC3 ps && ((List.range R).all fun i=>isZ (zBU C (ent M i) (rqL ps))) && !isZ (zBU C y (rqL ps)))=ans:=⟨_,rfl⟩;rw[hans];have HA:=xgv hans;have hcp:=fun w h=>zKX (.slice yo C yc) ps w h HSM.out
 obtain⟨lb,hlb⟩:∃lb,zC3 ps=lb:=⟨_,rfl⟩;rw[hlb]at hcp;have HCP:=xgv hcp;have HLB:=xgv hlb;clear hrw hF hm hb hp e2 f2 k2 hans hps hM hy hl hcp hlb;go_enter Tryz.func85,Tryz.ntmps85;go_upto_region 1 with(fail)
 refine zB ?_;intro W0 hW0;obtain⟨hB0,T4,hs0⟩:=zK hW0;clear hW0;go_wp2_with fail
 refine(HCP.out W0 (HP.out.below hB0)).mono ?_;rintro e1 w1 ⟨_,rfl,rfl,hb1⟩;have T4:=T4.below hb1;have hB:=nx hB0 hb1;obtain⟨c1,c2,c3,c4,c5,c6⟩:=T4.three;cases lb
 ·go_wp2
  go_ret;refine⟨_,rfl,?_,hB⟩;rw[<-HA.out,HLB.out];rfl
 ·have hpe:=zIn HLB.out
  rw[HLN.out]at hpe;have hq:∀j,j<C->HQ e (rqL ps j):=fun j hj=>zNt HLB.out HPB.out (by have:=HLN.out;omega)
  have hpv:jY w1 (.slice yo C yc) (zAC C fun t=>prQ (rqL ps t)):=by rw[<-hpe];exact HP.out.below hB
  have HPV:=xgv hpv;have HQS:=xgv hq;have HA2:qE ((((List.range R).all fun i=>isZ (zBU C (ent M i) (rqL ps))) && !isZ (zBU C y (rqL ps)))=ans):=⟨by rw[<-HA.out,HLB.out];simp⟩;obtain⟨q,hqq⟩:∃q,rqL ps=q:=⟨_,rfl⟩;rw[hqq]at HPV HQS HA2;clear hpe hq hpv hqq HLB HCP;go_wp2;go_loopw [14] (fun iv wr=>∃i:Nat,i<=R/\iv= .int .i64 i/\Below w1.heap.size w1 wr/\qE (∀k,k<i->isZ (zBU C (ent M k) q)=true)) (fun iv _=>R-(intOf iv).toNat)
  case atStart=>exact⟨0,by omega,rfl,Below.refl _ _,⟨fun k hk=>by omega⟩⟩
  case round=>
   obtain⟨i,hi,rfl,hb,hall⟩:=hrel;by_cases hlt:i<R
   ·obtain⟨bm,ra,rn,rc,zs,rfl,hbm,hz,p1,hrv⟩:=(HRW.out.below (nx hB hb)).row (k:=i) (by rw[HF.out.1];exact hlt)
    obtain rfl:=HF.out.row_eq hz;have HRV:=xgv hrv;clear hz hrv;go_wp2_with fail
    refine(zIf (e:=e) (h:=h) _ _ C (ent M i) q wr HRV.out (HPV.out.below hb) (fun j hj=>HMB.out i hlt j hj) hh HQS.out hC he).mono ?_;rintro e5 w5 ⟨rv,rfl,hrat,hb5⟩;have HRAT:=xgv hrat;clear hrat;go_wp2_with fail
    refine(zBm _ _ w5 HRAT.out).mono ?_;rintro e6 w6 ⟨_,rfl,rfl,hb6⟩;cases hz:isZ (zBU C (ent M i) q)
    ·go_wp2
     go_ret;refine⟨_,rfl,?_,nx hB (nx (nx hb hb5) hb6)⟩;rw[<-HA2.out];have:((List.range R).all fun i=>isZ (zBU C (ent M i) q))=false:=List.all_eq_false.2 ⟨i,List.mem_range.2 hlt,by rw[hz];decide⟩;rw[this];rfl
    ·go_wp2
     go_roundw
     case rel=>exact⟨i+1,by omega,by simp,nx (nx hb hb5) hb6,⟨fun k hk=>by
      rcases Nat.lt_or_ge k i with g|g
      ·exact hall.out k g
      ·obtain rfl:k=i:=by omega
       exact hz⟩⟩
     case measure=>simp[intOf];omega
   ·obtain rfl:i=R:=by omega
    have hB:=nx hB hb;go_wp2_with fail
    refine(zIf (e:=e) (h:=h) _ _ C y q wr (HB.out.below hB) (HPV.out.below hb) HYB.out hh HQS.out hC he).mono ?_;rintro e5 w5 ⟨rv,rfl,hrv,hb5⟩;have HRV:=xgv hrv;clear hrv;go_wp2_with fail
    refine(zBm _ _ w5 HRV.out).mono ?_;rintro e6 w6 ⟨_,rfl,rfl,hb6⟩;go_wp2;go_ret;refine⟨_,rfl,?_,nx (nx hB hb5) hb6⟩;rw[<-HA2.out];have:((List.range i).all fun i=>isZ (zBU C (ent M i) q))=true:=List.all_eq_true.2 fun k hk=>hall.out k (List.mem_range.1 hk)
    rw[this];rfl
theorem zDV(xo yo:Option Addr)(xn xc yn yc:Nat)(w:World):
  Calls Tryz.prog 81 #[.agg #[.bool true,.slice xo xn xc,.slice yo yn yc]] w fun e w'=>e= .returned (if yn=0 then .iface 148 (.slice xo xn xc)else .nilIface)/\Below w.heap.size w w':=by
 by_cases hy:(yn:Int)=0
 ·rw[if_pos oM]
  go_enter Tryz.func81,Tryz.ntmps81;go_upto_region 1 with(fail)
  refine zB ?_;intro W0 hW0;obtain⟨hB0,T1,hs0⟩:=zK hW0;obtain⟨c1,c2,c3,c4,c5,c6⟩:=T1.three;clear hW0;go_wp2;go_ret;exact⟨rfl,hB0⟩
 ·rw[if_neg oM]
  go_enter Tryz.func81,Tryz.ntmps81;go_upto_region 1 with(fail)
  refine zB ?_;intro W0 hW0;obtain⟨hB0,T1,hs0⟩:=zK hW0;obtain⟨c1,c2,c3,c4,c5,c6⟩:=T1.three;clear hW0;go_wp2;go_ret;exact⟨rfl,hB0⟩
theorem zF4(xo yo:Option Addr)(xn xc yn yc:Nat)(w:World):
  Calls Tryz.prog 81 #[.agg #[.bool false,.slice xo xn xc,.slice yo yn yc]] w fun e w'=>e= .returned (if xn=0 then .iface 137 (.slice yo yn yc)else .nilIface)/\Below w.heap.size w w':=by
 by_cases hx:(xn:Int)=0
 ·rw[if_pos oM]
  go_enter Tryz.func81,Tryz.ntmps81;go_upto_region 1 with(fail)
  refine zB ?_;intro W0 hW0;obtain⟨hB0,T1,hs0⟩:=zK hW0;obtain⟨c1,c2,c3,c4,c5,c6⟩:=T1.three;clear hW0;go_wp2;go_ret;exact⟨rfl,hB0⟩
 ·rw[if_neg oM]
  go_enter Tryz.func81,Tryz.ntmps81;go_upto_region 1 with(fail)
  refine zB ?_;intro W0 hW0;obtain⟨hB0,T1,hs0⟩:=zK hW0;obtain⟨c1,c2,c3,c4,c5,c6⟩:=T1.three;clear hW0;go_wp2;go_ret;exact⟨rfl,hB0⟩
theorem zEV(v:Value)(W:World):(Instr.typeAssert (.iface 148 v) 146 148 true).run Tryz.prog W= .ok (.tuple #[v,.bool true]) W:=by kernel_rfl
theorem zEU(v:Value)(W:World):(Instr.typeAssert (.iface 137 v) 146 148 true).run Tryz.prog W= .ok (.tuple #[.slice none 0 0,.bool false]) W:=by kernel_rfl
theorem zET(v:Value)(W:World):(Instr.typeAssert (.iface 137 v) 146 137 true).run Tryz.prog W= .ok (.tuple #[v,.bool true]) W:=by kernel_rfl
theorem zDt(W:World):(Instr.typeAssert .nilIface 146 148 true).run Tryz.prog W= .ok (.tuple #[.slice none 0 0,.bool false]) W:=by kernel_rfl
theorem zDu(W:World):(Instr.typeAssert .nilIface 146 137 true).run Tryz.prog W= .ok (.tuple #[.slice none 0 0,.bool false]) W:=by kernel_rfl
theorem zFg(o:Option Addr)(n c:Nat)(w:World):Calls Tryz.prog 82 #[.slice o n c] w fun e w'=>∃u,e= .returned u/\u= .int .i64 n/\Below w.heap.size w w':=by
 go_enter Tryz.func82,Tryz.ntmps82;go_wp2;go_ret;exact⟨_,rfl,rfl,Below.refl _ _⟩
theorem zFH(o:Option Addr)(n c:Nat)(w:World):Calls Tryz.prog 84 #[.slice o n c] w fun e w'=>∃u,e= .returned u/\u= .int .i64 n/\Below w.heap.size w w':=by
 go_enter Tryz.func84,Tryz.ntmps84;go_wp2;go_ret;exact⟨_,rfl,rfl,Below.refl _ _⟩
theorem zDv(mv bv xv yv:Value)(R C:Nat)(M:List (List Int))(y:Nat->Int)(xs:List Int)(ps:List (Int × Int))(w:World)(hm:jE w mv R C M)(hF:jT R C M)(hb:qN w bv (zM C y))(hx:qN w xv xs)(hp:jY w yv ps)(hR:R<=1000)(hC:C<=1000)(hS:xs.length=R->zBu xs M R C)(hl:xs.length=R)(hk:ps.length=0):
  Calls Tryz.prog 20 #[mv,bv,.agg #[.bool true,xv,yv]] w fun e w'=>∃u,e= .returned u/\u= .bool (zEx R C (ent M) y xs ps.length)/\Below w.heap.size w w':=by
 have HM:=xgv hm;obtain⟨Av,rfl,hrw⟩:=id hm;obtain⟨ao,mn,acap,rfl,e2,e3,e4,-⟩:=id hrw;obtain rfl:R=mn:=by rw[<-e2,hF.1]
 have HF:=xgv hF;have HB:=xgv hb;have HX:=xgv hx;obtain⟨bo,bn,bc,rfl,f2,f3,f4,-⟩:=id hb;obtain rfl:C=bn:=by rw[<-f2,zD]
 obtain⟨xo,xn,xc,rfl,g2,g3,g4,-⟩:=id hx;obtain⟨yo,yn,yc,rfl,k2,k3,k4,-⟩:=id hp;obtain rfl:R=xn:=by omega
 obtain rfl:yn=0:=by omega
 have hdv:decide (qX R C M)=true:=decide_eq_true hF.valid;have HL:=xgv hl;have HS:=xgv (hS hl);have hce:zEx R C (ent M) y xs ps.length=decide (zM C (fun j=>qF R fun i=>xs.getD i 0*ent M i j)=zM C y):=by
  unfold zEx;rw[hl,hk];simp
 rw[hce];obtain⟨ans,hans⟩:∃ans,decide (zM C (fun j=>qF R fun i=>xs.getD i 0*ent M i j)=zM C y)=ans:=⟨_,rfl⟩;have HA:=xgv hans;rw[hans];clear hrw hF hm hb hx hp hS hl hk hce hans e2 f2 g2 k2;go_enter Tryz.func20,Tryz.ntmps20;go_upto_region 1 with(fail)
 refine zB ?_;intro W0 hW0;obtain⟨hB0,T3,T5,hs0⟩:=qH hW0;obtain⟨c1,c2,c3,c4,c5,c6⟩:=T3.three;clear hW0;go_wp2_with fail
 refine(yF _ R C M W0 (HM.out.below hB0)).mono ?_;rintro e1 w1 ⟨rfl,hb1⟩;rw[hdv];have T3:=T3.below hb1;have T5:=T5.below hb1;have hB:=nx hB0 hb1;clear c1 c2 c3 c4 c5 c6 hdv;go_wp2_with fail
 refine(zAN _ _ w1 (HB.out.below hB)).mono ?_;rintro e2 w2 ⟨rfl,hb2⟩;have T3:=T3.below hb2;have T5:=T5.below hb2;have hB:=nx hB hb2;obtain⟨c1,c2,c3,c4,c5,c6⟩:=T3.three;obtain⟨d1,d2,d3,d4,d5,d6⟩:=T5.three;go_wp2_with fail
 refine(zDV xo yo R xc 0 yc w2).mono ?_;rintro e3 w3 ⟨rfl,hb3⟩;have T3:=T3.below hb3;have hB:=nx hB hb3;clear c1 c2 c3 c4 c5 c6 d1 d2 d3 d4 d5 d6 T5;obtain⟨c1,c2,c3,c4,c5,c6⟩:=T3.three;rw[if_pos rfl];have hta:=zEV;go_upto_region 6 with(fail)
 refine zE rfl (RV w3 _ [E 0 29 (.slice xo R xc),VN 1 30 R,VP 2 31 w.heap.size 0,VN 3 32 R,E 4 33 (.bool true),E 5 34 (.bool true),E 6 35 (.slice xo R xc),E 7 36 (.agg #[.int .i64 R,.int .i64 C,.slice ao R acap]),E 8 37 (.slice bo C bc),E 9 38 (.bool ans),E 10 39 (.bool ans),E 11 6 (.bool ans)]) kR RV.start (RV.fin kR ?fin1) ?steps1
 case steps1=>
  (repeat' constructor)<;>(intro L T wS hL hd hcl hI K hK;try refine zA rfl ?_)
  ·exact xgs (hI.k 7 rfl kR)
  ·have zt0:=hI.e mm0 (hd 0)
   go_simp;refine(zFg xo R xc _).mono ?_;rintro e wa ⟨v,rfl,hv,hba⟩;exact hK _ _ ((hI.world hba).y mm1 hv)
  ·exact xgs (hI.k 3 rfl kR)
  ·have zt2:=hI.e mm2 (hd 2)
   have cc0:=hI.cell c1;exact xgu
  ·exact xgt (hI.e mm1 (hd 1)) (hI.e mm3 (hd 3))
  ·exact xgs (hI.e mm4 (hd 4))
  ·have zg:=hI.e mm5 (hd 5)
   refine zA xgp ?_;exact xgs (hI.k 7 rfl kR)
  ·have zg:=hI.e mm5 (hd 5)
   refine zA xgp ?_;have zt:=hI.k 3 rfl kR;have cc0:=hI.cell c1;have cc1:=hI.cell c2;have cc2:=hI.cell c3;exact xgu
  ·have zg:=hI.e mm5 (hd 5)
   refine zA xgp ?_;exact xgs (hI.k 1 rfl kR)
  ·have zg:=hI.e mm5 (hd 5)
   refine zA xgp ?_;have zt6:=hI.e mm6 (hd 6);have zt7:=hI.e mm7 (hd 7);have zt8:=hI.e mm8 (hd 8);go_simp;refine(HA.out ▸ zJz _ _ _ xs M R C y _ (HX.out.below (nx hB hI.bel)) (HM.out.below (nx hB hI.bel)) (HB.out.below (nx hB hI.bel)) HL.out HF.out oM oM HS.out).mono ?_;rintro e wa ⟨v,rfl,hv,hba⟩;exact hK _ _ ((hI.world hba).y mm9 hv)
  ·exact xgt (hI.e mm5 (hd 5)) (hI.e mm9 (hd 9))
  ·exact xgs (hI.e zAB (hd 10))
 intro w4 hbw4 T hT;simp only[Fin,E,EI,VP,VSl,VN,xgg,xgh,xgi,xgj]at hT;subst hT;go_wp2;go_ret;exact⟨_,rfl,rfl,nx hB hbw4⟩
end Go.Proofs.YtnbmaipobhppcaaGreat
