/- The reference's integers, eleventh part: Gcd. Package integer: Ext. Rows and matrices of integers in memory. Rational numbers, plain: bounds by bits, lowest terms. torsionref05: ValidVec. Matrices whose rows' slice begins somewhere in a block, for reading. torsionref05: Same, Valid, Sized. Divides of both packages; torsionref05.Sized. torsionref13.Is. matrix.Valid; smith.diagonal. smith.diagonal. append on rows of integers; smith.elements. The law for regions that draw, where nothing is written: values that last behind new memory. smith.elements. smith.Is. Matrices that a call itself made. Pairs of integers and rational numbers as values; lists of them; append. -/
import Derived.StillTailTactics
import Derived.BigQuiet
import Derived.Deep.QuietTactic
import Derived.Test.YtnbmaipobhppcaaGreatE03
set_option linter.unusedVariables false
set_option linter.unusedSimpArgs false
set_option linter.unusedSectionVars false
set_option maxHeartbeats 16000000
set_option maxRecDepth 100000
namespace Go.Proofs.YtnbmaipobhppcaaGreat
open Go.RowKit
theorem zOP(a b:Int):Int.gcd b (a%b)=Int.gcd a b:=by
 have key:∀d:Nat,((d:Int)∣b/\(d:Int)∣a%b)↔((d:Int)∣a/\(d:Int)∣b):=by
  intro d;constructor
  ·rintro⟨h1,h2⟩
   refine⟨?_,h1⟩;have:=Int.emod_add_mul_ediv a b;rw[<-this];exact Int.dvd_add h2 (Int.dvd_trans h1 (Int.dvd_mul_right _ _))
  ·rintro⟨h1,h2⟩
   refine⟨h2,?_⟩;have:=Int.emod_def a b;rw[this];exact Int.dvd_sub h1 (Int.dvd_trans h2 (Int.dvd_mul_right _ _))
 apply Nat.dvd_antisymm
 ·have h:=(key (Int.gcd b (a%b))).1 ⟨Int.gcd_dvd_left ..,Int.gcd_dvd_right ..⟩
  exact Int.dvd_gcd h.1 h.2
 ·have h:=(key (Int.gcd a b)).2 ⟨Int.gcd_dvd_left ..,Int.gcd_dvd_right ..⟩
  exact Int.dvd_gcd h.1 h.2
theorem zHA(v1 v2:Value)(z1 z2:Int)(w:World)(h1:zH w v1 z1)(h2:zH w v2 z2)(s1:Smd z1)(s2:Smd z2):
  Calls Tryz.prog 235 #[v1,v2] w (jL w ((Int.gcd z1 z2:Nat):Int)):=by
 obtain⟨neg1,ao1,n1,cap1,xs,rfl,i1⟩:=id h1;obtain⟨neg2,ao2,n2,cap2,ys,rfl,i2⟩:=id h2;have HS1:=xgw s1;have HS2:=xgw s2;clear s1 s2 i1 i2;go_enter Tryz.func235,Tryz.ntmps235;go_upto_block 0 with(fail)
 refine zB ?_;intro W0 hW0;obtain⟨hB0,bx1,bx2,br,hs0⟩:=yO hW0;have h1:=h1.ext (lx hB0);have h2:=h2.ext (lx hB0);obtain⟨f,hf⟩:=zF2;go_wp2;go_loopw [] (fun wr=>∃(a b:Int) (x1 y1 x2 y2:Value),Below w.heap.size w wr/\Blk wr w.heap.size 35 #[x1,y1]/\zH wr (.agg #[x1,y1]) a/\Blk wr (w.heap.size+1) 35 #[x2,y2]/\zH wr (.agg #[x2,y2]) b∧
  Blk wr (w.heap.size+1+1) 35 #[.bool false,.slice none 0 0]/\Hid (Int.gcd a b=Int.gcd z1 z2)/\Smd a/\Smd b) (fun wr=>(f wr (w.heap.size+1)).natAbs)
 case atStart=>exact⟨z1,z2,_,_,_,_,hB0,bx1,h1,bx2,h2,br,xgw rfl,HS1.out,HS2.out⟩
 case round=>
  obtain⟨a,b,x1,y1,x2,y2,hbr,p1,j1,p2,j2,p3,hg,sa,sb⟩:=hrel;have HSA:=xgw sa;have HSB:=xgw sb;clear sa sb;have hfr:=hf _ _ _ _ _ p2 j2;obtain⟨an,aa,al,ac,ax,hav,ha⟩:=id j1;injection hav with hav
  simp only[Array.mk.injEq,List.cons.injEq,and_true]at hav;obtain⟨rfl,rfl⟩:=hav;have HA:=xgw ha;clear ha;obtain⟨bn,ba,bl,bc,bx,hbv,hb⟩:=id j2;injection hbv with hbv
  simp only[Array.mk.injEq,List.cons.injEq,and_true]at hbv;obtain⟨rfl,rfl⟩:=hbv;have HB:=xgw hb;clear hb;obtain⟨d1,d2,d3,d4⟩:=p2.two;go_wp2_with fail
  refine(zA0 _ _ wr j2).mono ?_;rintro e w3 ⟨rfl,hb3⟩;have p1:=p1.below hb3;have p2:=p2.below hb3;have p3:=p3.below hb3;clear d1 d2 d3 d4;obtain⟨c1,c2,c3,c4⟩:=p1.two;obtain⟨d1,d2,d3,d4⟩:=p2.two;have hbr:=nx hbr hb3;have j1:=j1.ext (lx hb3);have j2:=j2.ext (lx hb3);by_cases h0:b=0
  ·have hc:qJ b 0=0:=by unfold qJ;rw[if_neg oM,if_neg oM]
   rw[hc];have hhb:=HB;obtain⟨e1,e2,e3,e4,e5,e6,-⟩:=HA.out;have hal:al<=8*LIM:=by
    have:=(e6 ▸ HSA.out).len e5;rw[e1,zAR]at this;rw[qW];omega
   have HE1:=xgw e1;have HE6:=xgw e6;clear e1 e6;go_wp2_with fail
   refine(yM aa al ac ax false w3 HE1.out e2 e3 hal (e4.ext (lx hb3))).mono ?_;rintro e w4 ⟨v,rfl,hv,hb4⟩;obtain⟨vn,va,vl,vc,vx,rfl,hv'⟩:=id hv;have HV:=xgw hv';clear hv';have p3:=p3.below hb4;obtain⟨g1,g2,g3,g4⟩:=p3.two;go_wp2_with fail
   refine zW rfl rfl rfl (p3.put2 _ _) ?_ (zO (zO (nx hbr hb4) oM 0 _) oM 1 _);rw[<-hg.out,h0,Int.gcd_zero,HE6.out,zZ,<-sgn_false];exact hv.ext (p3.lext2 dE _ _)
  ·have hc:qJ b 0≠0:=by unfold qJ;split<;>(try split)<;>omega
   obtain⟨k,hk⟩:∃k,qJ b 0=k:=⟨_,rfl⟩;rw[hk]at hc ⊢
   have hl5:=p3.lt;go_wp2_with fail
   refine(zB8 _ _ a b w3 j1 j2 HSA.out HSB.out h0).mono ?_;rintro e w4 ⟨q0,r0,rfl,hq,hr,hb4⟩;obtain⟨qn,qa,ql,qc,qx,rfl,hq'⟩:=id hq;obtain⟨rn,ra,rl,rc,rx,rfl,hr'⟩:=id hr;have HQ':=xgw hq';have HR':=xgw hr';clear hq' hr' hk hc;go_upto_region 3 with(fail)
   refine zB ?_;intro W5 hW5;obtain⟨hB5,T5,T6,hs5⟩:=qH hW5;have p1:=(p1.below hb4).below hB5;have p2:=(p2.below hb4).below hB5;have p3:=(p3.below hb4).below hB5;have hbr:=nx (nx hbr hb4) hB5;have j2:=(j2.ext (lx hb4)).ext (lx hB5);have hr:=hr.ext (lx hB5);clear c1 c2 c3 c4 d1 d2 d3 d4;obtain⟨d1,d2,d3,d4⟩:=p2.two;obtain⟨f1,f2,f3,f4⟩:=T6.two;have hl6:=T6.lt;have hl3:=p3.lt;have hl4:w.heap.size+1+1<w4.heap.size:=by have h1:=hb4.size;omega
   clear hW5;refine zE rfl (RI W5 (W5.heap.size) _ 35
     [E 0 18 (.agg #[.bool bn,.slice ba bl bc]),E 1 19 (.agg #[.bool rn,.slice ra rl rc])] [] [⟨2,w.heap.size,fun w v=>zH w v (b)⟩,⟨3,w.heap.size+1,fun w v=>zH w v ((a%b))⟩]) kR RI.start ?fin1 ?steps1
   case steps1=>
    (repeat' constructor)<;>(intro L T wS hL hd hcl hI K hK;try refine zA rfl ?_)
    ·have zt:=hI.k 3 rfl kR
     have zl:L[3]?≠some true:=fun hh=>by have:=hcl 3 _ rfl hh 0 kR;rw[hL]at this;cases this
     have cc0:=hI.cellE _ mm1 d1 zl;have cc1:=hI.cellE _ mm1 d2 zl;dsimp only at cc0;dsimp only at cc1;exact xgu
    ·have zt:=hI.k 6 rfl kR
     have cc0:=hI.cell f1 oM aU;have cc1:=hI.cell f2 oM aU;exact xgu
    ·have zt:=hI.k 2 rfl kR
     have zv:=hI.e mm0 (hd 0);obtain⟨⟨xo,yo,zb,-⟩,-⟩:=hI.ex _ mm0;replace zb:Blk wS (w.heap.size) 35 #[xo,yo]:=zb;obtain⟨zk1,zk2,zk3,zk4⟩:=zb.two;go_simp;exact hK _ _ (hI.storeE ⟨2,w.heap.size,_⟩ mm0 rfl hL rfl (zH.ext j2 hI.lext))
    ·have zt:=hI.k 3 rfl kR
     have zv:=hI.e mm1 (hd 1);obtain⟨⟨xo,yo,zb,-⟩,-⟩:=hI.ex _ mm1;replace zb:Blk wS (w.heap.size+1) 35 #[xo,yo]:=zb;obtain⟨zk1,zk2,zk3,zk4⟩:=zb.two;go_simp;exact hK _ _ (hI.storeE ⟨3,w.heap.size+1,_⟩ mm1 rfl hL rfl (zH.ext hr hI.lext))
   intro T W6 hI;obtain⟨⟨exa2,eya2,eba2,eia2⟩,-⟩:=hI.ex _ mm0;replace eba2:Blk W6 (w.heap.size) 35 #[exa2,eya2]:=eba2;replace eia2:zH W6 (.agg #[exa2,eya2]) (b):=eia2 rfl;obtain⟨⟨exa3,eya3,eba3,eia3⟩,-⟩:=hI.ex _ mm1;replace eba3:Blk W6 (w.heap.size+1) 35 #[exa3,eya3]:=eba3;replace eia3:zH W6 (.agg #[exa3,eya3]) ((a%b)):=eia3 rfl;have hT:=hI.finx kR kR;have hlW6:=hI.lext;have hbW6:=hI.bel (w.heap.size) oM aU;have holdW6:=hI.old;clear hI;simp only[zEN,zD7,E,EI,ptr,xgm,List.not_mem_nil,false_implies,implies_true,and_true,true_and,xgg,xgh,xgi,xgj]at hT;subst hT;have p3:Blk W6 (w.heap.size+1+1) 35 #[.bool false,.slice none 0 0]:=
    (holdW6 _ oM aU).trans p3
   go_wp2;go_roundw
   case rel=>
    refine⟨b,a%b,_,_,_,_,hbr.trans hbW6,eba2,eia2,eba3,eia3,p3,?_,HSB.out,HSB.out.mono ?_⟩
    ·refine xgw ?_
     rw[zOP,hg.out]
    ·have h5:=Int.emod_nonneg a h0
     have h6:=Int.emod_lt a h0;omega
   case measure=>
    rw[hf _ _ _ _ _ eba3 eia3,hfr];have h5:=Int.emod_nonneg a h0;have h6:=Int.emod_lt a h0;omega
def jU(w:World)(b:Nat)(z:Int):Prop:=∃n a l c,Blk w b 35 #[.bool n,.slice a l c]/\zH w (.agg #[.bool n,.slice a l c]) z
theorem jU.mk{w:World}{b:Nat}{z:Int}{x y:Value}(h:Blk w b 35 #[x,y])(hv:zH w (.agg #[x,y]) z):jU w b z:=by
 obtain⟨n,a,l,c,xs,e,h2⟩:=id hv;injection e with e
 simp only[Array.mk.injEq,List.cons.injEq,and_true]at e;obtain⟨rfl,rfl⟩:=e;exact⟨_,_,_,_,h,hv⟩
theorem jU.old{w w':World}{b:Nat}{z:Int}(h:jU w b z)(e:w'.heap[b]?=w.heap[b]?)(x:yI w w'):jU w' b z:=by
 obtain⟨n,a,l,c,h1,h2⟩:=h;exact⟨n,a,l,c,e.trans h1,h2.ext x⟩
theorem jU.lt{w:World}{b:Nat}{z:Int}(h:jU w b z):b<w.heap.size:=by
 obtain⟨n,a,l,c,h1,h2⟩:=h;exact h1.lt
theorem jU.below{w w':World}{b:Nat}{z:Int}(h:jU w b z)(hb:Below w.heap.size w w'):jU w' b z:=h.old (hb.block _ h.lt) (lx hb)
theorem jU.far{w:World}{b r:Nat}{z:Int}(h:jU w b z)(hne:b≠r){t:TypeId}{cs:Array Value}(hr:Blk w r t cs)(ht:t≠tU)(x y:Value):jU ((w.setCell ⟨r,0,none⟩ x).setCell ⟨r,1,none⟩ y) b z:=
 h.old ((Below.heap_setCell _ ⟨r,1,none⟩ _ b hne).trans (Below.heap_setCell _ ⟨r,0,none⟩ _ b hne)) (hr.lext2 ht x y)
theorem jU.put{w:World}{r:Nat}{z:Int}{c0 c1:Value}(hr:Blk w r 35 #[c0,c1]){x y:Value}(hv:zH w (.agg #[x,y]) z):jU ((w.setCell ⟨r,0,none⟩ x).setCell ⟨r,1,none⟩ y) r z:=
 jU.mk (hr.put2 _ _) (hv.ext (hr.lext2 dE _ _))
structure zIW(w wr:World)(a b:Int):Prop where
 a:jU wr w.heap.size a
 b:jU wr (w.heap.size+1) b
 r1:Blk wr (w.heap.size+1+1) 35 #[.bool false,.slice none 0 0]
 r2:Blk wr (w.heap.size+1+1+1) 35 #[.bool false,.slice none 0 0]
 r3:Blk wr (w.heap.size+1+1+1+1) 35 #[.bool false,.slice none 0 0]
theorem zIW.old{w wr w':World}{a b:Int}(h:zIW w wr a b)(e:∀k,k<=w.heap.size+1+1+1+1->w'.heap[k]?=wr.heap[k]?)(x:yI wr w'):zIW w w' a b:=
 ⟨h.a.old (e _ oM) x,h.b.old (e _ oM) x,(e _ oM).trans h.r1,(e _ oM).trans h.r2,(e _ oM).trans h.r3⟩
theorem zIW.below{w wr w':World}{a b:Int}(h:zIW w wr a b)(hb:Below wr.heap.size wr w'):zIW w w' a b:=
 h.old (fun k hk=>hb.block k (by have:=h.r3.lt;omega)) (lx hb)
structure zN0(a b:Int)(x y:Nat)(σ:Bool)(p p' r r':Nat):Prop where
 hg:Nat.gcd x y=Int.gcd a b
 hx:(x:Int)=sgn σ p*(a.natAbs:Int)+sgn (!σ) r*(b.natAbs:Int)
 hy:(y:Int)=sgn (!σ) p'*(a.natAbs:Int)+sgn σ r'*(b.natAbs:Int)
 hb:p'*x+p*y=b.natAbs
 ha:r'*x+r*y=a.natAbs
 pb:p<=max 1 b.natAbs
 pb':p'<=max 1 b.natAbs
 rb:r<=max 1 a.natAbs
 rb':r'<=max 1 a.natAbs
 yb:y<=b.natAbs
 xb:x<=max a.natAbs b.natAbs
theorem zN0.start(a b:Int):zN0 a b a.natAbs b.natAbs false 1 0 0 1:=
 ⟨rfl,by simp,by simp,by simp,by simp,by omega,by omega,by omega,by omega,xgf _,by omega⟩
theorem zCN(σ:Bool)(p q p':Nat):sgn σ p-(q:Int)*sgn (!σ) p'=sgn σ (p+q*p'):=by
 have e:((q*p':Nat):Int)=(q:Int)*(p':Int):=Int.natCast_mul _ _;cases σ
 ·show(p:Int)-(q:Int)*(-(p':Int))=((p+q*p':Nat):Int)
  rw[Int.natCast_add,e,Int.mul_neg];omega
 ·show-(p:Int)-(q:Int)*((p':Nat):Int)=-((p+q*p':Nat):Int)
  rw[Int.natCast_add,e];omega
theorem zN0.step{a b:Int}{x y:Nat}{σ:Bool}{p p' r r':Nat}(h:zN0 a b x y σ p p' r r')(hy:0<y):
  zN0 a b y (x%y) (!σ) p' (p+x/y*p') r' (r+x/y*r'):=by
 have hd:=Nat.div_add_mod x y;have hm:=Nat.mod_lt x hy;have e1:(p+x/y*p')*y+p'*(x%y)=b.natAbs:=by
  rw[<-h.hb];have:p'*x=p'*(y*(x/y))+p'*(x%y):=by rw[<-Nat.mul_add,hd]
  rw[this,Nat.add_mul,Nat.mul_comm (x/y) p',Nat.mul_assoc,Nat.mul_comm (x/y) y];omega
 have e2:(r+x/y*r')*y+r'*(x%y)=a.natAbs:=by
  rw[<-h.ha];have:r'*x=r'*(y*(x/y))+r'*(x%y):=by rw[<-Nat.mul_add,hd]
  rw[this,Nat.add_mul,Nat.mul_comm (x/y) r',Nat.mul_assoc,Nat.mul_comm (x/y) y];omega
 have b1:p+x/y*p'<=b.natAbs:=by
  have:=Nat.le_mul_of_pos_right (p+x/y*p') hy;omega
 have b2:r+x/y*r'<=a.natAbs:=by
  have:=Nat.le_mul_of_pos_right (r+x/y*r') hy;omega
 refine⟨?_,by rw[Bool.not_not];exact h.hy,?_,e1,e2,h.pb',by omega,h.rb',by omega,?_,by have:=h.yb;omega⟩
 ·rw[<-h.hg,Nat.gcd_comm x y,Nat.gcd_rec y x,Nat.gcd_comm]
 ·rw[Bool.not_not]
  have hq:((x%y:Nat):Int)=(x:Int)-((x/y:Nat):Int)*(y:Int):=by
   have:((y*(x/y)+x%y:Nat):Int)=(x:Int):=by rw[hd]
   rw[Int.natCast_add,Int.natCast_mul,Int.mul_comm]at this;omega
  rw[hq,h.hx,h.hy,<-zCN,<-zCN (!σ) r (x/y) r',Bool.not_not];simp only[Int.sub_mul,Int.mul_add,Int.mul_assoc];omega
 ·have:=h.yb
  omega
def zPH(w:World)(a b:Int)(e:Ending)(w':World):Prop:=
 ∃v1 v2 v3 s t,e= .returned (.tuple #[v1,v2,v3])/\zH w' v1 ((Int.gcd a b:Nat):Int)/\zH w' v2 s/\zH w' v3 t/\s*a+t*b=((Int.gcd a b:Nat):Int)∧
  s.natAbs<=max 1 b.natAbs/\t.natAbs<=max 1 a.natAbs/\Below w.heap.size w w'
theorem zON(v1 v2:Value)(a b:Int)(w:World)(h1:zH w v1 a)(h2:zH w v2 b)(s1:Smd a)(s2:Smd b):
  Calls Tryz.prog 299 #[v1,v2] w (zPH w a b):=by
 obtain⟨neg1,ao1,n1,cap1,xs,rfl,i1⟩:=id h1;obtain⟨neg2,ao2,n2,cap2,ys,rfl,i2⟩:=id h2;have HS1:=xgw s1;have HS2:=xgw s2;clear s1 s2 i1 i2;go_enter Tryz.func299,Tryz.ntmps299;go_upto_region 1 with(fail)
 refine zB ?_;intro W0 hW0;obtain⟨hB0,bx1,bx2,br1,br2,br3,hs0⟩:=zPt hW0;have h1:=h1.ext (lx hB0);have h2:=h2.ext (lx hB0);have hk:zIW w W0 a b:=⟨jU.mk bx1 h1,jU.mk bx2 h2,br1,br2,br3⟩;obtain⟨c1,c2,c3,c4⟩:=bx1.two;obtain⟨d1,d2,d3,d4⟩:=bx2.two;have SA:=HS1.out.sm;have SB:=HS2.out.sm;refine zE rfl (RI W0 (W0.heap.size) _ 35
   [E 0 16 (.agg #[.bool neg1,.slice ao1 n1 cap1]),EI 1 17 (((a.natAbs:Nat):Int)),E 2 18 (.agg #[.bool neg2,.slice ao2 n2 cap2]),EI 3 19 (((b.natAbs:Nat):Int))] [⟨4,7,6,fun w v=>zH w v (((a.natAbs:Nat):Int))⟩,⟨5,8,7,fun w v=>zH w v (((b.natAbs:Nat):Int))⟩] []) kR RI.start ?fin1 ?steps1
 case steps1=>
  (repeat' constructor)<;>(intro L T wS hL hd hcl hI K hK;try refine zA rfl ?_)
  ·have zt:=hI.k 2 rfl kR
   have cc0:=hI.cell c1 oM nom;have cc1:=hI.cell c2 oM nom;exact xgu
  ·have zt0:=hI.e mm0 (hd 0)
   go_simp;refine(zKI _ a _ (h1.ext hI.lext).weak SA).mono ?_;exact xgo
  ·have zt:=hI.k 3 rfl kR
   have cc0:=hI.cell d1 oM nom;have cc1:=hI.cell d2 oM nom;exact xgu
  ·have zt2:=hI.e mm2 (hd 2)
   go_simp;refine(zKI _ b _ (h2.ext hI.lext).weak SB).mono ?_;exact xgo
  ·go_simp
   exact hK _ _ (hI.alloc ⟨4,7,6,_⟩ mm0 rfl hL)
  ·go_simp
   exact hK _ _ (hI.alloc ⟨5,8,7,_⟩ mm1 rfl hL)
  ·obtain⟨v,t1,hv⟩:=hI.vi mm1 (hd 1)
   obtain⟨b,x,y,t2,hb1,hb2,-⟩:=hI.box _ mm0 (hd 4);obtain⟨vneg,vao,vlen,vcap,vls,rfl,hv'⟩:=id hv;have HT:=xgw t2;unfold ptr at t2;obtain⟨k1,k2,k3,k4⟩:=hb2.two;go_simp;exact hK _ _ (hI.store ⟨4,7,6,_⟩ mm0 rfl (hd 4) HT.out hv)
  ·obtain⟨v,t1,hv⟩:=hI.vi mm3 (hd 3)
   obtain⟨b,x,y,t2,hb1,hb2,-⟩:=hI.box _ mm1 (hd 5);obtain⟨vneg,vao,vlen,vcap,vls,rfl,hv'⟩:=id hv;have HT:=xgw t2;unfold ptr at t2;obtain⟨k1,k2,k3,k4⟩:=hb2.two;go_simp;exact hK _ _ (hI.store ⟨5,8,7,_⟩ mm1 rfl (hd 5) HT.out hv)
 intro T W1 hI;have hT:=hI.finx kR kR;have hlW1:=hI.lext;have hbW1:=hI.bel (W0.heap.size) oM nom;have holdW1:=hI.old;clear hI;simp only[zEN,zD7,E,EI,ptr,xgm,List.not_mem_nil,false_implies,implies_true,and_true,true_and,xgg,xgh,xgi,xgj]at hT;obtain⟨va1,ha1,va3,ha3,ca4,xa4,ya4,ga4,ka4,ia4,ca5,xa5,ya5,ga5,ka5,ia5,na4_5,rfl⟩:=hT;have hk:=hk.below hbW1;have hBt:=nx hB0 hbW1;have z7:=jU.mk ka4 ia4;have z8:=jU.mk ka5 ia5;have l7:=z7.lt;have l8:=z8.lt;clear c1 c2 c3 c4 d1 d2 d3 d4 SA SB h1 h2 bx1 bx2 br1 br2 br3 ha1 ha3 ka4 ia4 ka5 ia5 hW0;go_wp2_with fail
 refine(zBK 1 W1 oM oM).mono ?_;rintro e w2 ⟨v,rfl,hv,hb2⟩;obtain⟨an,aa,al,ac,ax,rfl,ha⟩:=id hv;have HA:=xgw ha;clear ha;go_wp2_with fail
 refine(zBK 0 w2 oM oM).mono ?_;rintro e w3 ⟨u,rfl,hu,hb3⟩;obtain⟨bn,ba,bl,bc,bx,rfl,hb⟩:=id hu;have HB:=xgw hb;clear hb;go_upto_region 3 with(fail)
 refine zB ?_;intro W4 hW4;obtain⟨hB4,T9,T10,hs4⟩:=qH hW4;have hk:=((hk.below hb2).below hb3).below hB4;have hBt:=nx (nx (nx hBt hb2) hb3) hB4;have z7:=((z7.below hb2).below hb3).below hB4;have z8:=((z8.below hb2).below hb3).below hB4;have z9:=jU.mk T9 (hv.ext ((lx hb3).trans (lx hB4)));have z10:=jU.mk T10 (hu.ext (lx hB4));have hs1':=hb2.size;have hs2':=hb3.size;have hs3':=hbW1.size;clear hv hu hb2 hb3 hB4 T9 T10 hW4;go_wp2_with fail
 refine(zBK 0 W4 oM oM).mono ?_;rintro e w5 ⟨v,rfl,hv,hb2⟩;obtain⟨cn,ca,cl,cc,cx,rfl,ha⟩:=id hv;have HA':=xgw ha;clear ha;go_wp2_with fail
 refine(zBK 1 w5 oM oM).mono ?_;rintro e w6 ⟨u,rfl,hu,hb3⟩;obtain⟨dn,da,dl,dc,dx,rfl,hb⟩:=id hu;have HB':=xgw hb;clear hb;go_upto_block 0 with(fail)
 refine zB ?_;intro W7 hW7;obtain⟨hB7,T11,T12,hs7⟩:=qH hW7;have hk:=((hk.below hb2).below hb3).below hB7;have hBt:=nx (nx (nx hBt hb2) hb3) hB7;have z7:=((z7.below hb2).below hb3).below hB7;have z8:=((z8.below hb2).below hb3).below hB7;have z9:=((z9.below hb2).below hb3).below hB7;have z10:=((z10.below hb2).below hb3).below hB7;have z11:=jU.mk T11 (hv.ext ((lx hb3).trans (lx hB7)));have z12:=jU.mk T12 (hu.ext (lx hB7));have hs5':=hb2.size;have hs6':=hb3.size;clear hv hu hb2 hb3 hB7 T11 T12 hW7;obtain⟨f,hf⟩:=zF2;have lt8:=z8.lt;have lt7:=z7.lt;have q7:w.heap.size+1+1+1+1<ca4:=by omega
 have q8:w.heap.size+1+1+1+1<ca5:=by omega
 have q79:ca4<w3.heap.size:=by omega
 have q89:ca5<w3.heap.size:=by omega
 have q11:w3.heap.size+1<w6.heap.size:=by omega
 clear lt7 lt8 l7 l8 hs0 hs4 hs5' hs6' hs1' hs2' hs3' ga4 ga5;go_wp2;go_loopw [] (fun wr=>∃(x y:Nat) (σ:Bool) (p p' r r':Nat),zN0 a b x y σ p p' r r'/\Below w.heap.size w wr/\zIW w wr a b/\jU wr ca4 x/\jU wr ca5 y/\jU wr w3.heap.size (sgn σ p)/\jU wr (w3.heap.size+1) (sgn (!σ) p')∧
  jU wr w6.heap.size (sgn (!σ) r)/\jU wr (w6.heap.size+1) (sgn σ r')) (fun wr=>(f wr ca5).natAbs)
 case atStart=>exact⟨_,_,_,_,_,_,_,zN0.start a b,hBt,hk,z7,z8,z9,z10,z11,z12⟩
 case round=>
  obtain⟨x,y,σ,p,p',r,r',hN,hBt,hk,z7,z8,z9,z10,z11,z12⟩:=hrel;have HN:=xgw hN;clear hN;have lt12:=z12.lt;obtain⟨yn,ya,yl,yc,k8,i8⟩:=z8;have hfr:=hf _ _ _ _ _ k8 i8;obtain⟨d1,d2,d3,d4⟩:=k8.two;go_wp2_with fail
  refine(qV _ _ wr i8.weak).mono ?_;rintro e wa ⟨rfl,hba⟩;have k8:=k8.below hba;have i8:=i8.ext (lx hba);have hk:=hk.below hba;have hBt:=nx hBt hba;have z7:=z7.below hba;have z9:=z9.below hba;have z10:=z10.below hba;have z11:=z11.below hba;have z12:=z12.below hba;have hsa:=hba.size;clear d1 d2 d3 d4 hba;obtain⟨d1,d2,d3,d4⟩:=k8.two;obtain⟨xn,xa,xl,xc,k7,i7⟩:=z7;obtain⟨c1,c2,c3,c4⟩:=k7.two;by_cases h0:y=0
  ·have hc:qJ (y:Int) 0=0:=by subst h0;rfl
   rw[hc];have hG:(x:Int)=((Int.gcd a b:Nat):Int):=by
    have:=HN.out.hg;rw[h0,Nat.gcd_zero_right]at this;rw[this]
   have HG:=xgw hG;clear hG hfr lt12;go_wp2_with fail
   refine(qV _ _ wa i7.weak).mono ?_;rintro e wb ⟨rfl,hb⟩;have k7:=k7.below hb;have i7:=i7.ext (lx hb);have hk:=hk.below hb;have hBt:=nx hBt hb;have z9:=z9.below hb;have z11:=z11.below hb;clear c1 c2 c3 c4 d1 d2 d3 d4 hb z10 z12 k8 i8 hc hsa;by_cases hx0:x=0
   ·have hc:qJ (x:Int) 0=0:=by subst hx0;rfl
    rw[hc];obtain⟨e1,e2,e3,e4⟩:=hk.r1.two;obtain⟨f1,f2,f3,f4⟩:=hk.r2.two;obtain⟨g1,g2,g3,g4⟩:=hk.r3.two;go_wp2_with fail
    refine bodyPost_ret (zA8 rfl _ rfl rfl rfl ((((hk.r1.put2 _ _).far oM _ _).far oM _ _).far oM _ _|>.far oM _ _) ((((hk.r2.far oM _ _).far oM _ _).put2 _ _).far oM _ _|>.far oM _ _) ((((hk.r3.far oM _ _).far oM _ _).far oM _ _).far oM _ _|>.put2 _ _) rfl rfl rfl) rfl ?_;refine⟨_,_,_,0,0,rfl,?_,zAD _,zAD _,?_,by omega,by omega,zO (zO (zO (zO (zO (zO hBt oM 0 _) oM 1 _) oM 0 _) oM 1 _) oM 0 _) oM 1 _⟩
    ·rw[<-HG.out,hx0];exact zAD _
    ·rw[<-HG.out,hx0];simp
   ·have hc:qJ (x:Int) 0=1:=by unfold qJ;rw[if_neg oM,if_pos oM]
    rw[hc];obtain⟨an,aa,al,ac,ka,ia⟩:=hk.a;obtain⟨c1,c2,c3,c4⟩:=ka.two;go_wp2_with fail
    refine(qV _ _ wb ia.weak).mono ?_;rintro e wc ⟨rfl,hb⟩;have k7:=k7.below hb;have i7:=i7.ext (lx hb);have hk:=hk.below hb;have hBt:=nx hBt hb;have z9:=z9.below hb;have z11:=z11.below hb;clear c1 c2 c3 c4 hb ka ia hc;have hsum:sgn σ p*(a.natAbs:Int)+sgn (!σ) r*(b.natAbs:Int)=((Int.gcd a b:Nat):Int):=by rw[<-HG.out,HN.out.hx]
    have pb:=HN.out.pb;have rb:=HN.out.rb;have SP:qE (Sm (sgn σ p)):=⟨HS2.out.sm1 (by rw[zZ];omega)⟩;have SR:qE (Sm (sgn (!σ) r)):=⟨HS1.out.sm1 (by rw[zZ];omega)⟩;obtain⟨s0,hs0⟩:∃s0,sgn σ p=s0:=⟨_,rfl⟩;obtain⟨t0,ht0⟩:∃t0,sgn (!σ) r=t0:=⟨_,rfl⟩;have ps0:s0.natAbs<=max 1 b.natAbs:=by rw[<-hs0,zZ];exact pb
    have rt0:t0.natAbs<=max 1 a.natAbs:=by rw[<-ht0,zZ];exact rb
    rw[hs0]at z9 hsum SP;rw[ht0]at z11 hsum SR;clear hs0 ht0 pb rb;by_cases ha0:a<0
    ·have hc:qJ a 0=-1:=by unfold qJ;rw[if_pos ha0]
     have hsum:-s0*a+t0*(b.natAbs:Int)=((Int.gcd a b:Nat):Int):=by
      rw[<-hsum];have:(a.natAbs:Int)=-a:=by omega
      rw[this,Int.neg_mul_comm s0 a]
     rw[hc];obtain⟨sn,sa,sl,sc,ks,is⟩:=z9;obtain⟨c1,c2,c3,c4⟩:=ks.two;go_wp2_with fail
     refine(jP _ s0 wc is.weak SP.out).mono ?_;rintro e wd ⟨v,rfl,hv,hb⟩;obtain⟨vn,va,vl,vc,vx,rfl,hv'⟩:=id hv;have HV:=xgw hv';clear hv' c1 c2 c3 c4;have ks:=ks.below hb;have k7:=k7.below hb;have i7:=i7.ext (lx hb);have hk:=hk.below hb;have hBt:=nx hBt hb;have z11:=z11.below hb;obtain⟨c1,c2,c3,c4⟩:=ks.two;go_upto_region 13 with(fail)
     refine zB ?_;intro We hWe;have z9:jU We w3.heap.size (-s0):=by rw[hWe.out];exact jU.put ks hv
     have z11:jU We w6.heap.size t0:=by rw[hWe.out];exact z11.far oM ks dE _ _
     have k7':=Blk.at_ hWe ((k7.far oM _ _).far oM _ _);have hx':yI wd We:=by rw[hWe.out];exact ks.lext2 dE _ _
     have i7:=i7.ext hx';have hk:zIW w We a b:=hk.old (fun k hk0=>by rw[hWe.out];exact(Below.heap_setCell _ ⟨_,1,none⟩ _ k (by show k≠w3.heap.size;omega)).trans (Below.heap_setCell _ ⟨_,0,none⟩ _ k (by show k≠w3.heap.size;omega))) hx';have k7:=k7';have hBt:Below w.heap.size w We:=by rw[hWe.out];exact zO (zO hBt oM 0 _) oM 1 _
     clear c1 c2 c3 c4 hWe hb ks k7' hx' hc is hv;have ps0:(-s0).natAbs<=max 1 b.natAbs:=by rw[Int.natAbs_neg];exact ps0
     obtain⟨bn',ba',bl',bc',kb,ib⟩:=hk.b;obtain⟨c1,c2,c3,c4⟩:=kb.two;go_wp2_with fail
     refine(qV _ _ We ib.weak).mono ?_;rintro e wf ⟨rfl,hb⟩;have k7:=k7.below hb;have i7:=i7.ext (lx hb);have hk:=hk.below hb;have hBt:=nx hBt hb;have z9:=z9.below hb;have z11:=z11.below hb;clear c1 c2 c3 c4 hb kb ib;by_cases hb0:b<0
     ·have hc:qJ b 0=-1:=by unfold qJ;rw[if_pos hb0]
      have hsum:(-s0)*a+-t0*b=((Int.gcd a b:Nat):Int):=by
       rw[<-hsum];have:(b.natAbs:Int)=-b:=by omega
       rw[this,Int.neg_mul_comm t0 b]
      rw[hc];obtain⟨tn,ta,tl,tc,kt,it⟩:=z11;obtain⟨c1,c2,c3,c4⟩:=kt.two;go_wp2_with fail
      refine(jP _ t0 wf it.weak SR.out).mono ?_;rintro e wg ⟨v,rfl,hv,hb⟩;obtain⟨un,ua,ul,uc,ux,rfl,hv'⟩:=id hv;have HU:=xgw hv';clear hv' c1 c2 c3 c4;have kt:=kt.below hb;have k7:=k7.below hb;have i7:=i7.ext (lx hb);have hk:=hk.below hb;have hBt:=nx hBt hb;have z9:=z9.below hb;obtain⟨c1,c2,c3,c4⟩:=kt.two;go_upto_region 15 with(fail)
      refine zB ?_;intro Wh hWh;have z11:jU Wh w6.heap.size (-t0):=by rw[hWh.out];exact jU.put kt hv
      have z9:jU Wh w3.heap.size (-s0):=by rw[hWh.out];exact z9.far oM kt dE _ _
      have k7':=Blk.at_ hWh ((k7.far oM _ _).far oM _ _);have hx':yI wg Wh:=by rw[hWh.out];exact kt.lext2 dE _ _
      have i7:=i7.ext hx';have hk:zIW w Wh a b:=hk.old (fun k hk0=>by rw[hWh.out];exact(Below.heap_setCell _ ⟨_,1,none⟩ _ k (by show k≠w6.heap.size;omega)).trans (Below.heap_setCell _ ⟨_,0,none⟩ _ k (by show k≠w6.heap.size;omega))) hx';have k7:=k7';have hBt:Below w.heap.size w Wh:=by rw[hWh.out];exact zO (zO hBt oM 0 _) oM 1 _
      have rt0:(-t0).natAbs<=max 1 a.natAbs:=by rw[Int.natAbs_neg];exact rt0
      clear c1 c2 c3 c4 hWh hb kt k7' hx' hc it hv;obtain⟨sn,sa,sl,sc,ks,is⟩:=z9;obtain⟨tn,ta,tl,tc,kt,it⟩:=z11;obtain⟨c1,c2,c3,c4⟩:=k7.two;obtain⟨d1,d2,d3,d4⟩:=ks.two;obtain⟨f1,f2,f3,f4⟩:=kt.two;have lkt:=kt.lt;have kr1:=hk.r1;have kr2:=hk.r2;have kr3:=hk.r3;refine zE rfl (RI Wh (Wh.heap.size) _ 35
        [E 0 64 (.agg #[.bool xn,.slice xa xl xc]),E 1 65 (.agg #[.bool sn,.slice sa sl sc]),E 2 66 (.agg #[.bool tn,.slice ta tl tc])] [] [⟨3,w.heap.size+1+1,fun w v=>zH w v ((x:Int))⟩,⟨4,w.heap.size+1+1+1,fun w v=>zH w v ((-s0))⟩,⟨5,w.heap.size+1+1+1+1,fun w v=>zH w v ((-t0))⟩]) kR RI.start ?fin2 ?steps2
      case steps2=>
       (repeat' constructor)<;>(intro L T wS hL hd hcl hI K hK;try refine zA rfl ?_)
       ·have zt:=hI.k 7 rfl kR
        have cc0:=hI.cell c1 oM aU;have cc1:=hI.cell c2 oM aU;exact xgu
       ·have zt:=hI.k 9 rfl kR
        have cc0:=hI.cell d1 oM aU;have cc1:=hI.cell d2 oM aU;exact xgu
       ·have zt:=hI.k 11 rfl kR
        have cc0:=hI.cell f1 oM aU;have cc1:=hI.cell f2 oM aU;exact xgu
       ·have zt:=hI.k 4 rfl kR
        have zv:=hI.e mm0 (hd 0);obtain⟨⟨xo,yo,zb,-⟩,-⟩:=hI.ex _ mm0;replace zb:Blk wS (w.heap.size+1+1) 35 #[xo,yo]:=zb;obtain⟨zk1,zk2,zk3,zk4⟩:=zb.two;go_simp;exact hK _ _ (hI.storeE ⟨3,w.heap.size+1+1,_⟩ mm0 rfl hL rfl (zH.ext i7 hI.lext))
       ·have zt:=hI.k 5 rfl kR
        have zv:=hI.e mm1 (hd 1);obtain⟨⟨xo,yo,zb,-⟩,-⟩:=hI.ex _ mm1;replace zb:Blk wS (w.heap.size+1+1+1) 35 #[xo,yo]:=zb;obtain⟨zk1,zk2,zk3,zk4⟩:=zb.two;go_simp;exact hK _ _ (hI.storeE ⟨4,w.heap.size+1+1+1,_⟩ mm1 rfl hL rfl (zH.ext is hI.lext))
       ·have zt:=hI.k 6 rfl kR
        have zv:=hI.e mm2 (hd 2);obtain⟨⟨xo,yo,zb,-⟩,-⟩:=hI.ex _ mm2;replace zb:Blk wS (w.heap.size+1+1+1+1) 35 #[xo,yo]:=zb;obtain⟨zk1,zk2,zk3,zk4⟩:=zb.two;go_simp;exact hK _ _ (hI.storeE ⟨5,w.heap.size+1+1+1+1,_⟩ mm2 rfl hL rfl (zH.ext it hI.lext))
      intro T Wz hI;obtain⟨⟨exz3,eyz3,ebz3,eiz3⟩,-⟩:=hI.ex _ mm0;replace ebz3:Blk Wz (w.heap.size+1+1) 35 #[exz3,eyz3]:=ebz3;replace eiz3:zH Wz (.agg #[exz3,eyz3]) ((x:Int)):=eiz3 rfl;obtain⟨⟨exz4,eyz4,ebz4,eiz4⟩,-⟩:=hI.ex _ mm1;replace ebz4:Blk Wz (w.heap.size+1+1+1) 35 #[exz4,eyz4]:=ebz4;replace eiz4:zH Wz (.agg #[exz4,eyz4]) ((-s0)):=eiz4 rfl;obtain⟨⟨exz5,eyz5,ebz5,eiz5⟩,-⟩:=hI.ex _ mm2;replace ebz5:Blk Wz (w.heap.size+1+1+1+1) 35 #[exz5,eyz5]:=ebz5;replace eiz5:zH Wz (.agg #[exz5,eyz5]) ((-t0)):=eiz5 rfl;have hT:=hI.finx kR kR;have hlWz:=hI.lext;have hbWz:=hI.bel (w.heap.size) oM aU;have holdWz:=hI.old;clear hI;simp only[zEN,zD7,E,EI,ptr,xgm,List.not_mem_nil,false_implies,implies_true,and_true,true_and,xgg,xgh,xgi,xgj]at hT;subst hT;go_wp2_with fail
      refine bodyPost_ret (zA8 rfl _ rfl rfl rfl ebz3 ebz4 ebz5 rfl rfl rfl) rfl ⟨_,_,_,(-s0),(-t0),rfl,HG.out ▸ eiz3,eiz4,eiz5,hsum,ps0,rt0,hBt.trans hbWz⟩
     ·have hc:¬ qJ b 0<0:=by unfold qJ;rw[if_neg hb0];split<;>omega
      obtain⟨k,hkk⟩:∃k,qJ b 0=k:=⟨_,rfl⟩;rw[hkk]at hc ⊢
      have hsum:(-s0)*a+t0*b=((Int.gcd a b:Nat):Int):=by
       rw[<-hsum];have:(b.natAbs:Int)=b:=by omega
       rw[this]
      clear hkk;go_upto_region 15 with(fail)
      obtain⟨sn,sa,sl,sc,ks,is⟩:=z9;obtain⟨tn,ta,tl,tc,kt,it⟩:=z11;obtain⟨c1,c2,c3,c4⟩:=k7.two;obtain⟨d1,d2,d3,d4⟩:=ks.two;obtain⟨f1,f2,f3,f4⟩:=kt.two;have lkt:=kt.lt;have kr1:=hk.r1;have kr2:=hk.r2;have kr3:=hk.r3;refine zE rfl (RI wf (wf.heap.size) _ 35
        [E 0 64 (.agg #[.bool xn,.slice xa xl xc]),E 1 65 (.agg #[.bool sn,.slice sa sl sc]),E 2 66 (.agg #[.bool tn,.slice ta tl tc])] [] [⟨3,w.heap.size+1+1,fun w v=>zH w v ((x:Int))⟩,⟨4,w.heap.size+1+1+1,fun w v=>zH w v ((-s0))⟩,⟨5,w.heap.size+1+1+1+1,fun w v=>zH w v (t0)⟩]) kR RI.start ?fin3 ?steps3
      case steps3=>
       (repeat' constructor)<;>(intro L T wS hL hd hcl hI K hK;try refine zA rfl ?_)
       ·have zt:=hI.k 7 rfl kR
        have cc0:=hI.cell c1 oM aU;have cc1:=hI.cell c2 oM aU;exact xgu
       ·have zt:=hI.k 9 rfl kR
        have cc0:=hI.cell d1 oM aU;have cc1:=hI.cell d2 oM aU;exact xgu
       ·have zt:=hI.k 11 rfl kR
        have cc0:=hI.cell f1 oM aU;have cc1:=hI.cell f2 oM aU;exact xgu
       ·have zt:=hI.k 4 rfl kR
        have zv:=hI.e mm0 (hd 0);obtain⟨⟨xo,yo,zb,-⟩,-⟩:=hI.ex _ mm0;replace zb:Blk wS (w.heap.size+1+1) 35 #[xo,yo]:=zb;obtain⟨zk1,zk2,zk3,zk4⟩:=zb.two;go_simp;exact hK _ _ (hI.storeE ⟨3,w.heap.size+1+1,_⟩ mm0 rfl hL rfl (zH.ext i7 hI.lext))
       ·have zt:=hI.k 5 rfl kR
        have zv:=hI.e mm1 (hd 1);obtain⟨⟨xo,yo,zb,-⟩,-⟩:=hI.ex _ mm1;replace zb:Blk wS (w.heap.size+1+1+1) 35 #[xo,yo]:=zb;obtain⟨zk1,zk2,zk3,zk4⟩:=zb.two;go_simp;exact hK _ _ (hI.storeE ⟨4,w.heap.size+1+1+1,_⟩ mm1 rfl hL rfl (zH.ext is hI.lext))
       ·have zt:=hI.k 6 rfl kR
        have zv:=hI.e mm2 (hd 2);obtain⟨⟨xo,yo,zb,-⟩,-⟩:=hI.ex _ mm2;replace zb:Blk wS (w.heap.size+1+1+1+1) 35 #[xo,yo]:=zb;obtain⟨zk1,zk2,zk3,zk4⟩:=zb.two;go_simp;exact hK _ _ (hI.storeE ⟨5,w.heap.size+1+1+1+1,_⟩ mm2 rfl hL rfl (zH.ext it hI.lext))
      intro T Wz hI;obtain⟨⟨exz3,eyz3,ebz3,eiz3⟩,-⟩:=hI.ex _ mm0;replace ebz3:Blk Wz (w.heap.size+1+1) 35 #[exz3,eyz3]:=ebz3;replace eiz3:zH Wz (.agg #[exz3,eyz3]) ((x:Int)):=eiz3 rfl;obtain⟨⟨exz4,eyz4,ebz4,eiz4⟩,-⟩:=hI.ex _ mm1;replace ebz4:Blk Wz (w.heap.size+1+1+1) 35 #[exz4,eyz4]:=ebz4;replace eiz4:zH Wz (.agg #[exz4,eyz4]) ((-s0)):=eiz4 rfl;obtain⟨⟨exz5,eyz5,ebz5,eiz5⟩,-⟩:=hI.ex _ mm2;replace ebz5:Blk Wz (w.heap.size+1+1+1+1) 35 #[exz5,eyz5]:=ebz5;replace eiz5:zH Wz (.agg #[exz5,eyz5]) (t0):=eiz5 rfl;have hT:=hI.finx kR kR;have hlWz:=hI.lext;have hbWz:=hI.bel (w.heap.size) oM aU;have holdWz:=hI.old;clear hI;simp only[zEN,zD7,E,EI,ptr,xgm,List.not_mem_nil,false_implies,implies_true,and_true,true_and,xgg,xgh,xgi,xgj]at hT;subst hT;go_wp2_with fail
      refine bodyPost_ret (zA8 rfl _ rfl rfl rfl ebz3 ebz4 ebz5 rfl rfl rfl) rfl ⟨_,_,_,(-s0),t0,rfl,HG.out ▸ eiz3,eiz4,eiz5,hsum,ps0,rt0,hBt.trans hbWz⟩
    ·have hc:¬ qJ a 0<0:=by unfold qJ;rw[if_neg ha0];split<;>omega
     obtain⟨k,hkk⟩:∃k,qJ a 0=k:=⟨_,rfl⟩;rw[hkk]at hc ⊢
     have hsum:s0*a+t0*(b.natAbs:Int)=((Int.gcd a b:Nat):Int):=by
      rw[<-hsum];have:(a.natAbs:Int)=a:=by omega
      rw[this]
     clear hkk;obtain⟨bn',ba',bl',bc',kb,ib⟩:=hk.b;obtain⟨c1,c2,c3,c4⟩:=kb.two;go_wp2_with fail
     refine(qV _ _ wc ib.weak).mono ?_;rintro e wf ⟨rfl,hb⟩;have k7:=k7.below hb;have i7:=i7.ext (lx hb);have hk:=hk.below hb;have hBt:=nx hBt hb;have z9:=z9.below hb;have z11:=z11.below hb;clear c1 c2 c3 c4 hb kb ib;by_cases hb0:b<0
     ·have hc:qJ b 0=-1:=by unfold qJ;rw[if_pos hb0]
      have hsum:s0*a+-t0*b=((Int.gcd a b:Nat):Int):=by
       rw[<-hsum];have:(b.natAbs:Int)=-b:=by omega
       rw[this,Int.neg_mul_comm t0 b]
      rw[hc];obtain⟨tn,ta,tl,tc,kt,it⟩:=z11;obtain⟨c1,c2,c3,c4⟩:=kt.two;go_wp2_with fail
      refine(jP _ t0 wf it.weak SR.out).mono ?_;rintro e wg ⟨v,rfl,hv,hb⟩;obtain⟨un,ua,ul,uc,ux,rfl,hv'⟩:=id hv;have HU:=xgw hv';clear hv' c1 c2 c3 c4;have kt:=kt.below hb;have k7:=k7.below hb;have i7:=i7.ext (lx hb);have hk:=hk.below hb;have hBt:=nx hBt hb;have z9:=z9.below hb;obtain⟨c1,c2,c3,c4⟩:=kt.two;go_upto_region 15 with(fail)
      refine zB ?_;intro Wh hWh;have z11:jU Wh w6.heap.size (-t0):=by rw[hWh.out];exact jU.put kt hv
      have z9:jU Wh w3.heap.size s0:=by rw[hWh.out];exact z9.far oM kt dE _ _
      have k7':=Blk.at_ hWh ((k7.far oM _ _).far oM _ _);have hx':yI wg Wh:=by rw[hWh.out];exact kt.lext2 dE _ _
      have i7:=i7.ext hx';have hk:zIW w Wh a b:=hk.old (fun k hk0=>by rw[hWh.out];exact(Below.heap_setCell _ ⟨_,1,none⟩ _ k (by show k≠w6.heap.size;omega)).trans (Below.heap_setCell _ ⟨_,0,none⟩ _ k (by show k≠w6.heap.size;omega))) hx';have k7:=k7';have hBt:Below w.heap.size w Wh:=by rw[hWh.out];exact zO (zO hBt oM 0 _) oM 1 _
      have rt0:(-t0).natAbs<=max 1 a.natAbs:=by rw[Int.natAbs_neg];exact rt0
      clear c1 c2 c3 c4 hWh hb kt k7' hx' hc it hv;obtain⟨sn,sa,sl,sc,ks,is⟩:=z9;obtain⟨tn,ta,tl,tc,kt,it⟩:=z11;obtain⟨c1,c2,c3,c4⟩:=k7.two;obtain⟨d1,d2,d3,d4⟩:=ks.two;obtain⟨f1,f2,f3,f4⟩:=kt.two;have lkt:=kt.lt;have kr1:=hk.r1;have kr2:=hk.r2;have kr3:=hk.r3;refine zE rfl (RI Wh (Wh.heap.size) _ 35
        [E 0 64 (.agg #[.bool xn,.slice xa xl xc]),E 1 65 (.agg #[.bool sn,.slice sa sl sc]),E 2 66 (.agg #[.bool tn,.slice ta tl tc])] [] [⟨3,w.heap.size+1+1,fun w v=>zH w v ((x:Int))⟩,⟨4,w.heap.size+1+1+1,fun w v=>zH w v (s0)⟩,⟨5,w.heap.size+1+1+1+1,fun w v=>zH w v ((-t0))⟩]) kR RI.start ?fin4 ?steps4
      case steps4=>
       (repeat' constructor)<;>(intro L T wS hL hd hcl hI K hK;try refine zA rfl ?_)
       ·have zt:=hI.k 7 rfl kR
        have cc0:=hI.cell c1 oM aU;have cc1:=hI.cell c2 oM aU;exact xgu
       ·have zt:=hI.k 9 rfl kR
        have cc0:=hI.cell d1 oM aU;have cc1:=hI.cell d2 oM aU;exact xgu
       ·have zt:=hI.k 11 rfl kR
        have cc0:=hI.cell f1 oM aU;have cc1:=hI.cell f2 oM aU;exact xgu
       ·have zt:=hI.k 4 rfl kR
        have zv:=hI.e mm0 (hd 0);obtain⟨⟨xo,yo,zb,-⟩,-⟩:=hI.ex _ mm0;replace zb:Blk wS (w.heap.size+1+1) 35 #[xo,yo]:=zb;obtain⟨zk1,zk2,zk3,zk4⟩:=zb.two;go_simp;exact hK _ _ (hI.storeE ⟨3,w.heap.size+1+1,_⟩ mm0 rfl hL rfl (zH.ext i7 hI.lext))
       ·have zt:=hI.k 5 rfl kR
        have zv:=hI.e mm1 (hd 1);obtain⟨⟨xo,yo,zb,-⟩,-⟩:=hI.ex _ mm1;replace zb:Blk wS (w.heap.size+1+1+1) 35 #[xo,yo]:=zb;obtain⟨zk1,zk2,zk3,zk4⟩:=zb.two;go_simp;exact hK _ _ (hI.storeE ⟨4,w.heap.size+1+1+1,_⟩ mm1 rfl hL rfl (zH.ext is hI.lext))
       ·have zt:=hI.k 6 rfl kR
        have zv:=hI.e mm2 (hd 2);obtain⟨⟨xo,yo,zb,-⟩,-⟩:=hI.ex _ mm2;replace zb:Blk wS (w.heap.size+1+1+1+1) 35 #[xo,yo]:=zb;obtain⟨zk1,zk2,zk3,zk4⟩:=zb.two;go_simp;exact hK _ _ (hI.storeE ⟨5,w.heap.size+1+1+1+1,_⟩ mm2 rfl hL rfl (zH.ext it hI.lext))
      intro T Wz hI;obtain⟨⟨exz3,eyz3,ebz3,eiz3⟩,-⟩:=hI.ex _ mm0;replace ebz3:Blk Wz (w.heap.size+1+1) 35 #[exz3,eyz3]:=ebz3;replace eiz3:zH Wz (.agg #[exz3,eyz3]) ((x:Int)):=eiz3 rfl;obtain⟨⟨exz4,eyz4,ebz4,eiz4⟩,-⟩:=hI.ex _ mm1;replace ebz4:Blk Wz (w.heap.size+1+1+1) 35 #[exz4,eyz4]:=ebz4;replace eiz4:zH Wz (.agg #[exz4,eyz4]) (s0):=eiz4 rfl;obtain⟨⟨exz5,eyz5,ebz5,eiz5⟩,-⟩:=hI.ex _ mm2;replace ebz5:Blk Wz (w.heap.size+1+1+1+1) 35 #[exz5,eyz5]:=ebz5;replace eiz5:zH Wz (.agg #[exz5,eyz5]) ((-t0)):=eiz5 rfl;have hT:=hI.finx kR kR;have hlWz:=hI.lext;have hbWz:=hI.bel (w.heap.size) oM aU;have holdWz:=hI.old;clear hI;simp only[zEN,zD7,E,EI,ptr,xgm,List.not_mem_nil,false_implies,implies_true,and_true,true_and,xgg,xgh,xgi,xgj]at hT;subst hT;go_wp2_with fail
      refine bodyPost_ret (zA8 rfl _ rfl rfl rfl ebz3 ebz4 ebz5 rfl rfl rfl) rfl ⟨_,_,_,s0,(-t0),rfl,HG.out ▸ eiz3,eiz4,eiz5,hsum,ps0,rt0,hBt.trans hbWz⟩
     ·have hc:¬ qJ b 0<0:=by unfold qJ;rw[if_neg hb0];split<;>omega
      obtain⟨k,hkk⟩:∃k,qJ b 0=k:=⟨_,rfl⟩;rw[hkk]at hc ⊢
      have hsum:s0*a+t0*b=((Int.gcd a b:Nat):Int):=by
       rw[<-hsum];have:(b.natAbs:Int)=b:=by omega
       rw[this]
      clear hkk;go_upto_region 15 with(fail)
      obtain⟨sn,sa,sl,sc,ks,is⟩:=z9;obtain⟨tn,ta,tl,tc,kt,it⟩:=z11;obtain⟨c1,c2,c3,c4⟩:=k7.two;obtain⟨d1,d2,d3,d4⟩:=ks.two;obtain⟨f1,f2,f3,f4⟩:=kt.two;have lkt:=kt.lt;have kr1:=hk.r1;have kr2:=hk.r2;have kr3:=hk.r3;refine zE rfl (RI wf (wf.heap.size) _ 35
        [E 0 64 (.agg #[.bool xn,.slice xa xl xc]),E 1 65 (.agg #[.bool sn,.slice sa sl sc]),E 2 66 (.agg #[.bool tn,.slice ta tl tc])] [] [⟨3,w.heap.size+1+1,fun w v=>zH w v ((x:Int))⟩,⟨4,w.heap.size+1+1+1,fun w v=>zH w v (s0)⟩,⟨5,w.heap.size+1+1+1+1,fun w v=>zH w v (t0)⟩]) kR RI.start ?fin5 ?steps5
      case steps5=>
       (repeat' constructor)<;>(intro L T wS hL hd hcl hI K hK;try refine zA rfl ?_)
       ·have zt:=hI.k 7 rfl kR
        have cc0:=hI.cell c1 oM aU;have cc1:=hI.cell c2 oM aU;exact xgu
       ·have zt:=hI.k 9 rfl kR
        have cc0:=hI.cell d1 oM aU;have cc1:=hI.cell d2 oM aU;exact xgu
       ·have zt:=hI.k 11 rfl kR
        have cc0:=hI.cell f1 oM aU;have cc1:=hI.cell f2 oM aU;exact xgu
       ·have zt:=hI.k 4 rfl kR
        have zv:=hI.e mm0 (hd 0);obtain⟨⟨xo,yo,zb,-⟩,-⟩:=hI.ex _ mm0;replace zb:Blk wS (w.heap.size+1+1) 35 #[xo,yo]:=zb;obtain⟨zk1,zk2,zk3,zk4⟩:=zb.two;go_simp;exact hK _ _ (hI.storeE ⟨3,w.heap.size+1+1,_⟩ mm0 rfl hL rfl (zH.ext i7 hI.lext))
       ·have zt:=hI.k 5 rfl kR
        have zv:=hI.e mm1 (hd 1);obtain⟨⟨xo,yo,zb,-⟩,-⟩:=hI.ex _ mm1;replace zb:Blk wS (w.heap.size+1+1+1) 35 #[xo,yo]:=zb;obtain⟨zk1,zk2,zk3,zk4⟩:=zb.two;go_simp;exact hK _ _ (hI.storeE ⟨4,w.heap.size+1+1+1,_⟩ mm1 rfl hL rfl (zH.ext is hI.lext))
       ·have zt:=hI.k 6 rfl kR
        have zv:=hI.e mm2 (hd 2);obtain⟨⟨xo,yo,zb,-⟩,-⟩:=hI.ex _ mm2;replace zb:Blk wS (w.heap.size+1+1+1+1) 35 #[xo,yo]:=zb;obtain⟨zk1,zk2,zk3,zk4⟩:=zb.two;go_simp;exact hK _ _ (hI.storeE ⟨5,w.heap.size+1+1+1+1,_⟩ mm2 rfl hL rfl (zH.ext it hI.lext))
      intro T Wz hI;obtain⟨⟨exz3,eyz3,ebz3,eiz3⟩,-⟩:=hI.ex _ mm0;replace ebz3:Blk Wz (w.heap.size+1+1) 35 #[exz3,eyz3]:=ebz3;replace eiz3:zH Wz (.agg #[exz3,eyz3]) ((x:Int)):=eiz3 rfl;obtain⟨⟨exz4,eyz4,ebz4,eiz4⟩,-⟩:=hI.ex _ mm1;replace ebz4:Blk Wz (w.heap.size+1+1+1) 35 #[exz4,eyz4]:=ebz4;replace eiz4:zH Wz (.agg #[exz4,eyz4]) (s0):=eiz4 rfl;obtain⟨⟨exz5,eyz5,ebz5,eiz5⟩,-⟩:=hI.ex _ mm2;replace ebz5:Blk Wz (w.heap.size+1+1+1+1) 35 #[exz5,eyz5]:=ebz5;replace eiz5:zH Wz (.agg #[exz5,eyz5]) (t0):=eiz5 rfl;have hT:=hI.finx kR kR;have hlWz:=hI.lext;have hbWz:=hI.bel (w.heap.size) oM aU;have holdWz:=hI.old;clear hI;simp only[zEN,zD7,E,EI,ptr,xgm,List.not_mem_nil,false_implies,implies_true,and_true,true_and,xgg,xgh,xgi,xgj]at hT;subst hT;go_wp2_with fail
      refine bodyPost_ret (zA8 rfl _ rfl rfl rfl ebz3 ebz4 ebz5 rfl rfl rfl) rfl ⟨_,_,_,s0,t0,rfl,HG.out ▸ eiz3,eiz4,eiz5,hsum,ps0,rt0,hBt.trans hbWz⟩
  ·have hy0:0<y:=Nat.pos_of_ne_zero h0
   have hc:qJ (y:Int) 0=1:=by unfold qJ;rw[if_neg oM,if_pos oM]
   rw[hc];have hy0':(y:Int)≠0:=by omega
   have SX:Sm (x:Int):=by
    have hxb:=HN.out.xb;rcases Nat.le_total a.natAbs b.natAbs with hab|hab
    ·exact HS2.out.sm.mono (by rw[Int.natAbs_natCast];omega)
    ·exact HS1.out.sm.mono (by rw[Int.natAbs_natCast];omega)
   have SY:Sm (y:Int):=HS2.out.sm.mono (by have:=HN.out.yb;rw[Int.natAbs_natCast];exact this);have SX':=xgv SX;have SY':=xgv SY;clear SX SY;go_wp2_with fail
   refine(jV _ _ (x:Int) (y:Int) wa i7.weak i8.weak SX'.out SY'.out hy0').mono ?_;rintro e w4 ⟨q0,r0,rfl,hq,hr,hb4⟩;obtain⟨qn,qa,ql,qc,qx,rfl,hq'⟩:=id hq;obtain⟨rn,ra,rl,rc,rx,rfl,hr'⟩:=id hr;have HQ':=xgw hq';have HR':=xgw hr';clear hq' hr' hc hy0';go_upto_region 6 with(fail)
   refine zB ?_;intro W5 hW5;obtain⟨hB5,T13,T14,hs5⟩:=qH hW5;have k7:=(k7.below hb4).below hB5;have k8:=(k8.below hb4).below hB5;have i8:=(i8.ext (lx hb4)).ext (lx hB5);have hk:=(hk.below hb4).below hB5;have z9:=(z9.below hb4).below hB5;have z10:=(z10.below hb4).below hB5;have z11:=(z11.below hb4).below hB5;have z12:=(z12.below hb4).below hB5;have hBt:=nx (nx hBt hb4) hB5;have hq:=hq.ext (lx hB5);have hr:=hr.ext (lx hB5);have hs4:=hb4.size;have l13:w6.heap.size+1<w4.heap.size:=by omega
   clear c1 c2 c3 c4 d1 d2 d3 d4 hW5 hb4 hB5 hsa hs4 lt12;obtain⟨d1,d2,d3,d4⟩:=k8.two;obtain⟨f1,f2,f3,f4⟩:=T14.two;refine zE rfl (RI W5 (W5.heap.size) _ 35
     [E 0 34 (.agg #[.bool yn,.slice ya yl yc]),E 1 35 (.agg #[.bool rn,.slice ra rl rc])] [] [⟨2,ca4,fun w v=>zH w v ((y:Int))⟩,⟨3,ca5,fun w v=>zH w v (((x:Int)%(y:Int)))⟩]) kR RI.start ?fin6 ?steps6
   case steps6=>
    (repeat' constructor)<;>(intro L T wS hL hd hcl hI K hK;try refine zA rfl ?_)
    ·have zt:=hI.k 8 rfl kR
     have zl:L[3]?≠some true:=fun hh=>by have:=hcl 3 _ rfl hh 0 kR;rw[hL]at this;cases this
     have cc0:=hI.cellE _ mm1 d1 zl;have cc1:=hI.cellE _ mm1 d2 zl;dsimp only at cc0;dsimp only at cc1;exact xgu
    ·have zt:=hI.k 14 rfl kR
     have cc0:=hI.cell f1 oM aU;have cc1:=hI.cell f2 oM aU;exact xgu
    ·have zt:=hI.k 7 rfl kR
     have zv:=hI.e mm0 (hd 0);obtain⟨⟨xo,yo,zb,-⟩,-⟩:=hI.ex _ mm0;replace zb:Blk wS (ca4) 35 #[xo,yo]:=zb;obtain⟨zk1,zk2,zk3,zk4⟩:=zb.two;go_simp;exact hK _ _ (hI.storeE ⟨2,ca4,_⟩ mm0 rfl hL rfl (zH.ext i8 hI.lext))
    ·have zt:=hI.k 8 rfl kR
     have zv:=hI.e mm1 (hd 1);obtain⟨⟨xo,yo,zb,-⟩,-⟩:=hI.ex _ mm1;replace zb:Blk wS (ca5) 35 #[xo,yo]:=zb;obtain⟨zk1,zk2,zk3,zk4⟩:=zb.two;go_simp;exact hK _ _ (hI.storeE ⟨3,ca5,_⟩ mm1 rfl hL rfl (zH.ext hr hI.lext))
   intro T W8 hI;obtain⟨⟨exa2,eya2,eba2,eia2⟩,-⟩:=hI.ex _ mm0;replace eba2:Blk W8 (ca4) 35 #[exa2,eya2]:=eba2;replace eia2:zH W8 (.agg #[exa2,eya2]) ((y:Int)):=eia2 rfl;obtain⟨⟨exa3,eya3,eba3,eia3⟩,-⟩:=hI.ex _ mm1;replace eba3:Blk W8 (ca5) 35 #[exa3,eya3]:=eba3;replace eia3:zH W8 (.agg #[exa3,eya3]) (((x:Int)%(y:Int))):=eia3 rfl;have hT:=hI.finx kR kR;have hlW8:=hI.lext;have hbW8:=hI.bel (w.heap.size) oM aU;have holdW8:=hI.old;clear hI;simp only[zEN,zD7,E,EI,ptr,xgm,List.not_mem_nil,false_implies,implies_true,and_true,true_and,xgg,xgh,xgi,xgj]at hT;subst hT;have hk:zIW w W8 a b:=hk.old (fun k hk0=>holdW8 _ oM aU) hlW8;have z9:=z9.old (holdW8 _ oM aU) hlW8;have z10:=z10.old (holdW8 _ oM aU) hlW8;have z11:=z11.old (holdW8 _ oM aU) hlW8;have z12:=z12.old (holdW8 _ oM aU) hlW8;have z13:=(jU.mk T13 hq).old (holdW8 _ oM aU) hlW8;have z7:=jU.mk eba2 eia2;have z8:=jU.mk eba3 eia3;have hBt:=hBt.trans hbW8;have eq1:(x:Int)/(y:Int)=((x/y:Nat):Int):=rfl;rw[eq1]at z13;have hst:=HN.out.step hy0;have SP:qE (Sm (sgn σ p)):=⟨HS2.out.sm1 (by have:=HN.out.pb;rw[zZ];omega)⟩;have SP':qE (Sm (sgn (!σ) p')):=⟨HS2.out.sm1 (by have:=HN.out.pb';rw[zZ];omega)⟩;have SR:qE (Sm (sgn (!σ) r)):=⟨HS1.out.sm1 (by have:=HN.out.rb;rw[zZ];omega)⟩;have SR':qE (Sm (sgn σ r')):=⟨HS1.out.sm1 (by have:=HN.out.rb';rw[zZ];omega)⟩;have SQ:qE (Sm ((x/y:Nat):Int)):=⟨SX'.out.mono (by simp only[Int.natAbs_natCast];exact Nat.div_le_self _ _)⟩;have SQP:qE (Sm (((x/y:Nat):Int)*sgn (!σ) p')):=⟨HS2.out.sm1 (by have:=hst.pb';rw[Int.natAbs_mul,zZ,Int.natAbs_natCast];omega)⟩;have SQR:qE (Sm (((x/y:Nat):Int)*sgn σ r')):=⟨HS1.out.sm1 (by have:=hst.rb';rw[Int.natAbs_mul,zZ,Int.natAbs_natCast];omega)⟩;have HST:=xgw hst;clear hst;go_upto_region 7 with(fail)
   obtain⟨sn,sa,sl,sc,ks,is⟩:=z9;obtain⟨nn,na,nl,nc,kn,jn⟩:=z10;obtain⟨en,ea,el,ec,ke,je⟩:=z13;obtain⟨c1,c2,c3,c4⟩:=ks.two;obtain⟨d1,d2,d3,d4⟩:=kn.two;obtain⟨f1,f2,f3,f4⟩:=ke.two;have lke:=ke.lt;refine zE rfl (RI W8 (W8.heap.size) _ 35
     [E 0 36 (.agg #[.bool nn,.slice na nl nc]),E 1 37 (.agg #[.bool sn,.slice sa sl sc]),E 2 38 (.agg #[.bool en,.slice ea el ec]),E 3 39 (.agg #[.bool nn,.slice na nl nc]),EI 4 40 (((x/y:Nat):Int)*(sgn (!σ) p')),EI 5 41 ((sgn σ p)-((x/y:Nat):Int)*(sgn (!σ) p'))] [] [⟨6,w3.heap.size,fun w v=>zH w v ((sgn (!σ) p'))⟩,⟨7,w3.heap.size+1,fun w v=>zH w v ((sgn σ p)-((x/y:Nat):Int)*(sgn (!σ) p'))⟩]) kR RI.start ?fin7 ?steps7
   case steps7=>
    (repeat' constructor)<;>(intro L T wS hL hd hcl hI K hK;try refine zA rfl ?_)
    ·have zt:=hI.k 10 rfl kR
     have zl:L[7]?≠some true:=fun hh=>by have:=hcl 7 _ rfl hh 0 kR;rw[hL]at this;cases this
     have cc0:=hI.cellE _ mm1 d1 zl;have cc1:=hI.cellE _ mm1 d2 zl;dsimp only at cc0;dsimp only at cc1;exact xgu
    ·have zt:=hI.k 9 rfl kR
     have zl:L[6]?≠some true:=fun hh=>by have:=hcl 6 _ rfl hh 1 kR;rw[hL]at this;cases this
     have cc0:=hI.cellE _ mm0 c1 zl;have cc1:=hI.cellE _ mm0 c2 zl;dsimp only at cc0;dsimp only at cc1;exact xgu
    ·have zt:=hI.k 13 rfl kR
     have cc0:=hI.cell f1 oM aU;have cc1:=hI.cell f2 oM aU;exact xgu
    ·have zt:=hI.k 10 rfl kR
     have zl:L[7]?≠some true:=fun hh=>by have:=hcl 7 _ rfl hh 3 kR;rw[hL]at this;cases this
     have cc0:=hI.cellE _ mm1 d1 zl;have cc1:=hI.cellE _ mm1 d2 zl;dsimp only at cc0;dsimp only at cc1;exact xgu
    ·have zt2:=hI.e mm2 (hd 2)
     have zt3:=hI.e mm3 (hd 3);go_simp;refine(jO _ _ ((x/y:Nat):Int) (sgn (!σ) p') _ (je.ext hI.lext).weak (jn.ext hI.lext).weak SQ.out SP'.out).mono ?_;exact xgo
    ·have zt1:=hI.e mm1 (hd 1)
     obtain⟨v4,zt4,h4⟩:=hI.vi mm4 (hd 4);go_simp;refine(zIS _ _ (sgn σ p) (((x/y:Nat):Int)*(sgn (!σ) p')) _ (is.ext hI.lext).weak h4.weak SP.out SQP.out).mono ?_;exact xgo
    ·have zt:=hI.k 9 rfl kR
     have zv:=hI.e mm0 (hd 0);obtain⟨⟨xo,yo,zb,-⟩,-⟩:=hI.ex _ mm0;replace zb:Blk wS (w3.heap.size) 35 #[xo,yo]:=zb;obtain⟨zk1,zk2,zk3,zk4⟩:=zb.two;go_simp;exact hK _ _ (hI.storeE ⟨6,w3.heap.size,_⟩ mm0 rfl hL rfl (zH.ext jn hI.lext))
    ·have zt:=hI.k 10 rfl kR
     obtain⟨v,zv,hv⟩:=hI.vi mm5 (hd 5);obtain⟨vneg,vao,vlen,vcap,vls,rfl,hv'⟩:=id hv;obtain⟨⟨xo,yo,zb,-⟩,-⟩:=hI.ex _ mm1;replace zb:Blk wS (w3.heap.size+1) 35 #[xo,yo]:=zb;obtain⟨zk1,zk2,zk3,zk4⟩:=zb.two;go_simp;exact hK _ _ (hI.storeE ⟨7,w3.heap.size+1,_⟩ mm1 rfl hL rfl hv)
   intro T W9 hI;obtain⟨⟨exb6,eyb6,ebb6,eib6⟩,-⟩:=hI.ex _ mm0;replace ebb6:Blk W9 (w3.heap.size) 35 #[exb6,eyb6]:=ebb6;replace eib6:zH W9 (.agg #[exb6,eyb6]) ((sgn (!σ) p')):=eib6 rfl;obtain⟨⟨exb7,eyb7,ebb7,eib7⟩,-⟩:=hI.ex _ mm1;replace ebb7:Blk W9 (w3.heap.size+1) 35 #[exb7,eyb7]:=ebb7;replace eib7:zH W9 (.agg #[exb7,eyb7]) ((sgn σ p)-((x/y:Nat):Int)*(sgn (!σ) p')):=eib7 rfl;have hT:=hI.finx kR kR;have hlW9:=hI.lext;have hbW9:=hI.bel (w.heap.size) oM aU;have holdW9:=hI.old;clear hI;simp only[zEN,zD7,E,EI,ptr,xgm,List.not_mem_nil,false_implies,implies_true,and_true,true_and,xgg,xgh,xgi,xgj]at hT;obtain⟨vb4,hb4,vb5,hb5,rfl⟩:=hT;rw[(zCN σ p (x/y) p')]at eib7;have z13:=jU.mk ke je;have hk:zIW w W9 a b:=hk.old (fun k hk0=>holdW9 _ oM aU) hlW9;have z7:=z7.old (holdW9 _ oM aU) hlW9;have z8:=z8.old (holdW9 _ oM aU) hlW9;have z13:=z13.old (holdW9 _ oM aU) hlW9;have z11:=z11.old (holdW9 _ oM aU) hlW9;have z12:=z12.old (holdW9 _ oM aU) hlW9;have z9:=jU.mk ebb6 eib6;have z10:=jU.mk ebb7 eib7;have hBt:=hBt.trans hbW9;clear c1 c2 c3 c4 d1 d2 d3 d4 f1 f2 f3 f4 holdW9 hlW9 hbW9;have er:sgn (!σ) r-((x/y:Nat):Int)*sgn σ r'=sgn (!σ) (r+x/y*r'):=by
    have:=zCN (!σ) r (x/y) r';rwa[Bool.not_not]at this
   go_upto_region 8 with(fail)
   obtain⟨sn,sa,sl,sc,ks,is⟩:=z11;obtain⟨nn,na,nl,nc,kn,jn⟩:=z12;obtain⟨en,ea,el,ec,ke,je⟩:=z13;obtain⟨c1,c2,c3,c4⟩:=ks.two;obtain⟨d1,d2,d3,d4⟩:=kn.two;obtain⟨f1,f2,f3,f4⟩:=ke.two;have lke:=ke.lt;refine zE rfl (RI W9 (W9.heap.size) _ 35
     [E 0 42 (.agg #[.bool nn,.slice na nl nc]),E 1 43 (.agg #[.bool sn,.slice sa sl sc]),E 2 44 (.agg #[.bool en,.slice ea el ec]),E 3 45 (.agg #[.bool nn,.slice na nl nc]),EI 4 46 (((x/y:Nat):Int)*(sgn σ r')),EI 5 47 ((sgn (!σ) r)-((x/y:Nat):Int)*(sgn σ r'))] [] [⟨6,w6.heap.size,fun w v=>zH w v ((sgn σ r'))⟩,⟨7,w6.heap.size+1,fun w v=>zH w v ((sgn (!σ) r)-((x/y:Nat):Int)*(sgn σ r'))⟩]) kR RI.start ?fin8 ?steps8
   case steps8=>
    (repeat' constructor)<;>(intro L T wS hL hd hcl hI K hK;try refine zA rfl ?_)
    ·have zt:=hI.k 12 rfl kR
     have zl:L[7]?≠some true:=fun hh=>by have:=hcl 7 _ rfl hh 0 kR;rw[hL]at this;cases this
     have cc0:=hI.cellE _ mm1 d1 zl;have cc1:=hI.cellE _ mm1 d2 zl;dsimp only at cc0;dsimp only at cc1;exact xgu
    ·have zt:=hI.k 11 rfl kR
     have zl:L[6]?≠some true:=fun hh=>by have:=hcl 6 _ rfl hh 1 kR;rw[hL]at this;cases this
     have cc0:=hI.cellE _ mm0 c1 zl;have cc1:=hI.cellE _ mm0 c2 zl;dsimp only at cc0;dsimp only at cc1;exact xgu
    ·have zt:=hI.k 13 rfl kR
     have cc0:=hI.cell f1 oM aU;have cc1:=hI.cell f2 oM aU;exact xgu
    ·have zt:=hI.k 12 rfl kR
     have zl:L[7]?≠some true:=fun hh=>by have:=hcl 7 _ rfl hh 3 kR;rw[hL]at this;cases this
     have cc0:=hI.cellE _ mm1 d1 zl;have cc1:=hI.cellE _ mm1 d2 zl;dsimp only at cc0;dsimp only at cc1;exact xgu
    ·have zt2:=hI.e mm2 (hd 2)
     have zt3:=hI.e mm3 (hd 3);go_simp;refine(jO _ _ ((x/y:Nat):Int) (sgn σ r') _ (je.ext hI.lext).weak (jn.ext hI.lext).weak SQ.out SR'.out).mono ?_;exact xgo
    ·have zt1:=hI.e mm1 (hd 1)
     obtain⟨v4,zt4,h4⟩:=hI.vi mm4 (hd 4);go_simp;refine(zIS _ _ (sgn (!σ) r) (((x/y:Nat):Int)*(sgn σ r')) _ (is.ext hI.lext).weak h4.weak SR.out SQR.out).mono ?_;exact xgo
    ·have zt:=hI.k 11 rfl kR
     have zv:=hI.e mm0 (hd 0);obtain⟨⟨xo,yo,zb,-⟩,-⟩:=hI.ex _ mm0;replace zb:Blk wS (w6.heap.size) 35 #[xo,yo]:=zb;obtain⟨zk1,zk2,zk3,zk4⟩:=zb.two;go_simp;exact hK _ _ (hI.storeE ⟨6,w6.heap.size,_⟩ mm0 rfl hL rfl (zH.ext jn hI.lext))
    ·have zt:=hI.k 12 rfl kR
     obtain⟨v,zv,hv⟩:=hI.vi mm5 (hd 5);obtain⟨vneg,vao,vlen,vcap,vls,rfl,hv'⟩:=id hv;obtain⟨⟨xo,yo,zb,-⟩,-⟩:=hI.ex _ mm1;replace zb:Blk wS (w6.heap.size+1) 35 #[xo,yo]:=zb;obtain⟨zk1,zk2,zk3,zk4⟩:=zb.two;go_simp;exact hK _ _ (hI.storeE ⟨7,w6.heap.size+1,_⟩ mm1 rfl hL rfl hv)
   intro T WA hI;obtain⟨⟨exc6,eyc6,ebc6,eic6⟩,-⟩:=hI.ex _ mm0;replace ebc6:Blk WA (w6.heap.size) 35 #[exc6,eyc6]:=ebc6;replace eic6:zH WA (.agg #[exc6,eyc6]) ((sgn σ r')):=eic6 rfl;obtain⟨⟨exc7,eyc7,ebc7,eic7⟩,-⟩:=hI.ex _ mm1;replace ebc7:Blk WA (w6.heap.size+1) 35 #[exc7,eyc7]:=ebc7;replace eic7:zH WA (.agg #[exc7,eyc7]) ((sgn (!σ) r)-((x/y:Nat):Int)*(sgn σ r')):=eic7 rfl;have hT:=hI.finx kR kR;have hlWA:=hI.lext;have hbWA:=hI.bel (w.heap.size) oM aU;have holdWA:=hI.old;clear hI;simp only[zEN,zD7,E,EI,ptr,xgm,List.not_mem_nil,false_implies,implies_true,and_true,true_and,xgg,xgh,xgi,xgj]at hT;obtain⟨vc4,hc4,vc5,hc5,rfl⟩:=hT;rw[er]at eic7;have z13:=jU.mk ke je;have hk:zIW w WA a b:=hk.old (fun k hk0=>holdWA _ oM aU) hlWA;have z7:=z7.old (holdWA _ oM aU) hlWA;have z8:=z8.old (holdWA _ oM aU) hlWA;have z13:=z13.old (holdWA _ oM aU) hlWA;have z9:=z9.old (holdWA _ oM aU) hlWA;have z10:=z10.old (holdWA _ oM aU) hlWA;have z11:=jU.mk ebc6 eic6;have z12:=jU.mk ebc7 eic7;have hBt:=hBt.trans hbWA;clear c1 c2 c3 c4 d1 d2 d3 d4 f1 f2 f3 f4 holdWA hlWA hbWA;go_wp2;go_roundw
   case rel=>
    exact⟨y,x%y,!σ,p',_,r',_,HST.out,hBt,hk,z7,z8,z9,by rw[Bool.not_not];exact z10,by rw[Bool.not_not];exact z11,z12⟩
   case measure=>
    obtain⟨zn,za,zl,zc,k8,i8⟩:=z8;rw[hf _ _ _ _ _ k8 i8,hfr];have h5:=Int.emod_nonneg (x:Int) (show(y:Int)≠0 by omega);have h6:=Int.emod_lt (x:Int) (show(y:Int)≠0 by omega);omega
abbrev tI:TypeId:=35
def qC(w:World)(b:Nat)(zs:List Int):Prop:=
 ∃cs:Array Value,w.heap[b]?=some (.cells cs tI (0,0))/\∀k z,zs[k]?=some z->∃s a l c,cs[k*2]?=some (.bool s)/\cs[k*2+1]?=some (.slice a l c)/\zH w (.agg #[.bool s,.slice a l c]) z
theorem qC.lt{w:World}{b:Nat}{zs:List Int}(h:qC w b zs):b<w.heap.size:=by
 obtain⟨cs,h1,-⟩:=h;exact(Array.getElem?_eq_some_iff.1 h1).1
theorem qC.old{w w':World}{b:Nat}{zs:List Int}(h:qC w b zs)(e:w'.heap[b]?=w.heap[b]?)(x:yI w w'):qC w' b zs:=by
 obtain⟨cs,h1,h2⟩:=h;refine⟨cs,e.trans h1,fun k z hk=>?_⟩;obtain⟨s,a,l,c,e1,e2,e3⟩:=h2 k z hk;exact⟨s,a,l,c,e1,e2,e3.ext x⟩
theorem qC.below{w w':World}{b:Nat}{zs:List Int}(h:qC w b zs)(hb:Below w.heap.size w w'):qC w' b zs:=h.old (hb.block _ h.lt) (lx hb)
theorem qC.cell{w:World}{b:Nat}{zs:List Int}(h:qC w b zs){k:Nat}{z:Int}(hk:zs[k]?=some z):
  ∃s a l c,w.cell? ⟨b,k*2,none⟩=some (.bool s)/\w.cell? ⟨b,k*2+1,none⟩=some (.slice a l c)/\w.frozen? ⟨b,k*2,none⟩=false/\w.frozen? ⟨b,k*2+1,none⟩=false/\zH w (.agg #[.bool s,.slice a l c]) z:=by
 obtain⟨cs,h1,h2⟩:=h;obtain⟨s,a,l,c,e1,e2,e3⟩:=h2 k z hk;exact⟨s,a,l,c,(cell_of_row w b _ cs tI _ h1).trans e1,(cell_of_row w b _ cs tI _ h1).trans e2,frozen_of_row w b _ cs tI h1,frozen_of_row w b _ cs tI h1,e3⟩
theorem zU(w:World)(b i k:Nat)(u:Value)(h:k≠b):(w.setCell ⟨b,i,none⟩ u).heap[k]?=w.heap[k]?:=Below.heap_setCell w ⟨b,i,none⟩ u k h
theorem zV(w:World)(b i j k:Nat)(u v:Value)(h:k≠b):((w.setCell ⟨b,i,none⟩ u).setCell ⟨b,j,none⟩ v).heap[k]?=w.heap[k]?:=
 (zU _ b j k v h).trans (zU _ b i k u h)
theorem qC.set{w:World}{b:Nat}{zs:List Int}(h:qC w b zs){k:Nat}(hk:k<zs.length){s:Bool}{a:Option Addr}{l c:Nat}{z:Int}(hv:zH w (.agg #[.bool s,.slice a l c]) z):
  qC ((w.setCell ⟨b,k*2,none⟩ (.bool s)).setCell ⟨b,k*2+1,none⟩ (.slice a l c)) b (zs.set k z)/\yI w ((w.setCell ⟨b,k*2,none⟩ (.bool s)).setCell ⟨b,k*2+1,none⟩ (.slice a l c)):=by
 obtain⟨cs,h1,h2⟩:=h;have hB:Blk w b tI cs:=h1;have hx:yI w ((w.setCell ⟨b,k*2,none⟩ (.bool s)).setCell ⟨b,k*2+1,none⟩ (.slice a l c)):=(hB.lext dE _ _).trans ((hB.set_ _ _).lext dE _ _);refine⟨⟨(cs.setIfInBounds (k*2) (.bool s)).setIfInBounds (k*2+1) (.slice a l c),(hB.set_ _ _).set_ _ _,?_⟩,hx⟩;intro j y hj;by_cases e:j=k
 ·subst e
  rw[List.getElem?_set_self hk]at hj;injection hj with hj
  subst hj;obtain⟨s0,a0,l0,c0,e1,e2,-⟩:=h2 j zs[j] (xga hk);have l1:=(Array.getElem?_eq_some_iff.1 e1).1;have l2:=(Array.getElem?_eq_some_iff.1 e2).1;refine⟨s,a,l,c,?_,?_,hv.ext hx⟩
  ·rw[xgc oM,Array.getElem?_setIfInBounds_self_of_lt l1]
  ·rw[Array.getElem?_setIfInBounds_self_of_lt (by simpa using l2)]
 ·rw[List.getElem?_set_ne (Ne.symm e)]at hj
  obtain⟨s0,a0,l0,c0,e1,e2,e3⟩:=h2 j y hj;refine⟨s0,a0,l0,c0,?_,?_,e3.ext hx⟩
  ·rw[xgc oM,xgc oM];exact e1
  ·rw[xgc oM,xgc oM];exact e2
def qN(w:World)(v:Value)(zs:List Int):Prop:=
 ∃ao n cap,v= .slice ao n cap/\zs.length=n/\n<=cap/\cap<=9223372036854775807/\(zs≠ []->∃b,ao=some ⟨b,0,none⟩/\qC w b zs)
theorem qN.nil(w:World):qN w (.slice none 0 0) []:=⟨none,0,0,rfl,rfl,xgf _,by omega,fun h=>absurd rfl h⟩
theorem qN.below{w w':World}{v:Value}{zs:List Int}(h:qN w v zs)(hb:Below w.heap.size w w'):qN w' v zs:=by
 obtain⟨ao,n,cap,h1,h2,h3,h4,h5⟩:=h;exact⟨ao,n,cap,h1,h2,h3,h4,fun hn=>(h5 hn).elim fun b h=>⟨b,h.1,h.2.below hb⟩⟩
theorem qN.cell{w:World}{ao:Option Addr}{n cap:Nat}{zs:List Int}(h:qN w (.slice ao n cap) zs){k:Nat}(hk:k<zs.length):
  ∃b z s a l c,ao=some ⟨b,0,none⟩/\b<w.heap.size/\zs[k]?=some z/\w.cell? ⟨b,k*2,none⟩=some (.bool s)/\w.cell? ⟨b,k*2+1,none⟩=some (.slice a l c)/\zH w (.agg #[.bool s,.slice a l c]) z:=by
 obtain⟨ao',n',cap',h1,h2,h3,h4,h5⟩:=h;injection h1 with e1 e2 e3
 subst e1;obtain⟨b,e,hr⟩:=h5 (by rintro rfl;simp at hk);obtain⟨s,a,l,c,c1,c2,-,-,c5⟩:=hr.cell (xga hk);exact⟨b,_,s,a,l,c,e,hr.lt,xga hk,c1,c2,c5⟩
theorem qN.len{w:World}{ao:Option Addr}{n cap:Nat}{zs:List Int}(h:qN w (.slice ao n cap) zs):zs.length=n/\n<=cap/\cap<=9223372036854775807:=by
 obtain⟨ao',n',cap',h1,h2,h3,h4,h5⟩:=h;injection h1 with e1 e2 e3
 omega
def jA(w:World)(v:Value)(M:List (List Int)):Prop:=
 ∃ao n cap,v= .slice ao n cap/\M.length=n/\n<=cap/\cap<=9223372036854775807/\(M≠ []->∃(b:Nat) (cs:Array Value),ao=some ⟨b,0,none⟩/\w.heap[b]?=some (.cells cs 30 (0,0))/\∀(k:Nat) (zs:List Int),M[k]?=some zs->∃rv,cs[k]?=some rv/\qN w rv zs)
theorem jA.nil(w:World):jA w (.slice none 0 0) []:=⟨none,0,0,rfl,rfl,xgf _,by omega,fun h=>absurd rfl h⟩
theorem jA.below{w w':World}{v:Value}{M:List (List Int)}(h:jA w v M)(hb:Below w.heap.size w w'):jA w' v M:=by
 obtain⟨ao,n,cap,h1,h2,h3,h4,h5⟩:=h;refine⟨ao,n,cap,h1,h2,h3,h4,fun hn=>?_⟩;obtain⟨b,cs,e1,e2,e3⟩:=h5 hn;refine⟨b,cs,e1,(hb.block _ (Array.getElem?_eq_some_iff.1 e2).1).trans e2,fun k zs hk=>?_⟩;obtain⟨rv,e4,e5⟩:=e3 k zs hk;exact⟨rv,e4,e5.below hb⟩
theorem jA.row{w:World}{ao:Option Addr}{n cap:Nat}{M:List (List Int)}(h:jA w (.slice ao n cap) M){k:Nat}(hk:k<M.length):
  ∃b ra rn rc zs,ao=some ⟨b,0,none⟩/\b<w.heap.size/\M[k]?=some zs/\w.cell? ⟨b,k,none⟩=some (.slice ra rn rc)/\qN w (.slice ra rn rc) zs:=by
 obtain⟨ao',n',cap',h1,h2,h3,h4,h5⟩:=h;injection h1 with e1 e2 e3
 subst e1;obtain⟨b,cs,e,hr,hc⟩:=h5 (by rintro rfl;simp at hk);obtain⟨rv,c1,c2⟩:=hc k _ (xga hk);obtain⟨ra,rn,rc,rfl,c3⟩:=id c2;exact⟨b,ra,rn,rc,_,e,(Array.getElem?_eq_some_iff.1 hr).1,xga hk,(cell_of_row w b k cs _ _ hr).trans c1,c2⟩
def jE(w:World)(v:Value)(R C:Int)(M:List (List Int)):Prop:=∃A,v= .agg #[.int .i64 R,.int .i64 C,A]/\jA w A M
theorem jE.below{w w':World}{v:Value}{R C:Int}{M:List (List Int)}(h:jE w v R C M)(hb:Below w.heap.size w w'):jE w' v R C M:=by
 obtain⟨A,h1,h2⟩:=h;exact⟨A,h1,h2.below hb⟩
def jT(R C:Nat)(M:List (List Int)):Prop:=M.length=R/\∀r∈M,r.length=C
def HQ(e:Nat)(q:Rat):Prop:=q.num.natAbs<2^e/\q.den<2^e
theorem HQ.mono{a b:Nat}{q:Rat}(h:HQ a q)(hab:a<=b):HQ b q:=⟨Nat.lt_of_lt_of_le h.1 (Nat.pow_le_pow_right dE hab),Nat.lt_of_lt_of_le h.2 (Nat.pow_le_pow_right dE hab)⟩
theorem zE6(a b:Int):(a/b).natAbs<=a.natAbs∨b.natAbs=0∨¬ b∣a:=by
 by_cases hb:b=0
 ·exact .inr (.inl oM)
 ·by_cases hd:b∣a
  ·left
   obtain⟨c,rfl⟩:=hd;rw[Int.mul_ediv_cancel_left _ hb,Int.natAbs_mul];exact Nat.le_mul_of_pos_left _ (Int.natAbs_pos.2 hb)
  ·exact .inr (.inr hd)
theorem zFK(q:Rat):(q.den:Int)≠0:=by have:=q.den_nz;omega
theorem zGp{n d:Int}(h0:d≠0):(Rat.divInt n d).num.natAbs<=n.natAbs/\(Rat.divInt n d).den<=d.natAbs:=by
 have hg:0<d.gcd n:=Int.gcd_pos_iff.2 (.inl h0);refine⟨?_,?_⟩
 ·rw[Rat.num_divInt]
  have hd:((d.gcd n:Nat):Int)∣d.sign*n:=Int.dvd_trans (Int.gcd_dvd_right ..) (Int.dvd_mul_left _ _);rcases zE6 (d.sign*n) (d.gcd n)with h|h|h
  ·refine Nat.le_trans h ?_
   rw[Int.natAbs_mul,Int.natAbs_sign_of_ne_zero h0,Nat.one_mul];exact xgf _
  ·omega
  ·exact absurd hd h
 ·rw[Rat.den_divInt,if_neg h0]
  exact Nat.div_le_self _ _
theorem HQ.divInt{n d:Int}{e:Nat}(hn:n.natAbs<2^e)(hd:d.natAbs<2^e)(h0:d≠0):HQ e (Rat.divInt n d):=
 ⟨Nat.lt_of_le_of_lt (zGp h0).1 hn,Nat.lt_of_le_of_lt (zGp h0).2 hd⟩
theorem zDM(p q:Rat):p+q=Rat.divInt (p.num*q.den+q.num*p.den) ((p.den:Int)*q.den):=by
 rw[<-Rat.divInt_add_divInt _ _ (zFK p) (zFK q),Rat.num_divInt_den,Rat.num_divInt_den]
theorem zDc(p q:Rat):p*q=Rat.divInt (p.num*q.num) ((p.den:Int)*q.den):=by
 rw[<-Rat.divInt_mul_divInt,Rat.num_divInt_den,Rat.num_divInt_den]
theorem zFM(p q:Rat):p/q=Rat.divInt (p.num*q.den) ((p.den:Int)*q.num):=by
 rw[Rat.div_def,Rat.inv_def,<-Rat.divInt_mul_divInt,Rat.num_divInt_den]
theorem zM1{a b:Nat}{x y:Int}(hx:x.natAbs<2^a)(hy:y.natAbs<2^b):(x*y).natAbs<2^(a+b):=by
 rw[Int.natAbs_mul,Nat.pow_add];exact Nat.mul_lt_mul_of_lt_of_le hx (Nat.le_of_lt hy) (Nat.pow_pos dE)
theorem zQD{a:Nat}{x y:Int}(hx:x.natAbs<2^a)(hy:y.natAbs<2^a):(x+y).natAbs<2^(a+1):=by
 have:=Int.natAbs_add_le x y;rw[Nat.pow_succ];omega
theorem zRM{a:Nat}{x y:Int}(hx:x.natAbs<2^a)(hy:y.natAbs<2^a):(x-y).natAbs<2^(a+1):=by
 have:=Int.natAbs_sub_le x y;rw[Nat.pow_succ];omega
theorem HQ.ints{a b:Nat}{p q:Rat}(hp:HQ a p)(hq:HQ b q):(p.num*q.den).natAbs<2^(a+b)/\(q.num*p.den).natAbs<2^(a+b)/\(p.num*q.num).natAbs<2^(a+b)/\((p.den:Int)*q.den).natAbs<2^(a+b)/\((p.den:Int)*q.num).natAbs<2^(a+b):=by
 have h1:((p.den:Int)).natAbs<2^a:=by rw[Int.natAbs_natCast];exact hp.2
 have h2:((q.den:Int)).natAbs<2^b:=by rw[Int.natAbs_natCast];exact hq.2
 exact⟨zM1 hp.1 h2,Nat.add_comm a b ▸ zM1 hq.1 h1,zM1 hp.1 hq.1,zM1 h1 h2,zM1 h1 hq.1⟩
theorem zQj{a:Nat}{x:Nat}(h:x<2^a):x<2^(a+1):=Nat.lt_of_lt_of_le h (Nat.pow_le_pow_right dE oM)
theorem zDN(p q:Rat):(p.den:Int)*q.den≠0:=Int.mul_ne_zero (zFK p) (zFK q)
theorem zLB{q:Rat}(h:q≠0):q.num≠0:=fun e=>h (Rat.num_eq_zero.1 e)
theorem HQ.add{a b:Nat}{p q:Rat}(hp:HQ a p)(hq:HQ b q):HQ (a+b+1) (p+q):=by
 obtain⟨h1,h2,h3,h4,-⟩:=HQ.ints hp hq;rw[zDM];exact .divInt (zQD h1 h2) (zQj h4) (zDN p q)
theorem HQ.mul{a b:Nat}{p q:Rat}(hp:HQ a p)(hq:HQ b q):HQ (a+b) (p*q):=by
 obtain⟨h1,h2,h3,h4,-⟩:=HQ.ints hp hq;rw[zDc];exact .divInt h3 h4 (zDN p q)
theorem HQ.div{a b:Nat}{p q:Rat}(hp:HQ a p)(hq:HQ b q)(h0:q≠0):HQ (a+b) (p/q):=by
 obtain⟨h1,h2,h3,h4,h5⟩:=HQ.ints hp hq;rw[zFM];exact .divInt h1 h5 (Int.mul_ne_zero (zFK p) (zLB h0))
theorem HQ.int{a:Nat}{z:Int}(h:z.natAbs<2^a)(ha:1<=a):HQ a (z:Rat):=⟨by rw[Rat.num_intCast];exact h,by rw[Rat.den_intCast];exact Nat.lt_of_lt_of_le dE (Nat.pow_le_pow_right dE ha:2^1<=2^a)⟩
def zH3(n d:Int):Int:=if d<0 then-((Int.gcd n d:Nat):Int)else((Int.gcd n d:Nat):Int)
theorem zK4{n d:Int}(h:d≠0):zH3 n d≠0:=by
 have hg:0<Int.gcd n d:=Int.gcd_pos_iff.2 (.inr h);unfold zH3;split<;>omega
theorem zH5{n d:Int}(h:d≠0):n/zH3 n d=(Rat.divInt n d).num:=by
 rw[Rat.num_divInt,Int.gcd_comm d n];unfold zH3;rcases Int.lt_or_gt_of_ne h with h1|h1
 ·rw[if_pos h1,Int.sign_eq_neg_one_of_neg h1,Int.ediv_neg,Int.neg_mul,Int.one_mul]
  obtain⟨c,hc⟩:=Int.gcd_dvd_left (a:=n) (b:=d);have hg:((Int.gcd n d:Nat):Int)≠0:=by have:0<Int.gcd n d:=Int.gcd_pos_iff.2 (.inr h);omega
  generalize ((Int.gcd n d:Nat):Int)=g at hc hg;subst hc;rw[Int.mul_ediv_cancel_left _ hg,show-(g*c)=g*(-c) by rw[Int.mul_neg],Int.mul_ediv_cancel_left _ hg]
 ·rw[if_neg oM,Int.sign_eq_one_of_pos h1,Int.one_mul]
theorem zH4{n d:Int}(h:d≠0):d/zH3 n d=((Rat.divInt n d).den:Int):=by
 rw[Rat.den_divInt,if_neg h,Int.gcd_comm d n];obtain⟨c,hc⟩:=Int.gcd_dvd_right (a:=n) (b:=d);have hg:0<Int.gcd n d:=Int.gcd_pos_iff.2 (.inr h);unfold zH3;generalize Int.gcd n d=g at hc hg;rcases Int.lt_or_gt_of_ne h with h1|h1
 ·rw[if_pos h1,Int.ediv_neg,Int.natCast_ediv,Int.ofNat_natAbs_of_nonpos oM,hc,Int.mul_ediv_cancel_left _ oM,show-((g:Int)*c)=g*(-c) by rw[Int.mul_neg],Int.mul_ediv_cancel_left _ oM]
 ·rw[if_neg oM,Int.natCast_ediv,Int.natAbs_of_nonneg oM]
theorem zMy{n d:Int}(hd:0<d)(hg:Int.gcd n d=1):(Rat.divInt n d).num=n/\((Rat.divInt n d).den:Int)=d:=by
 rw[<-zH5 oM,<-zH4 oM];unfold zH3;rw[if_neg oM,hg];exact⟨Int.ediv_one _,Int.ediv_one _⟩
theorem zOx(q:Rat):Int.gcd q.num q.den=1:=by
 have:=q.reduced;unfold Nat.Coprime at this;unfold Int.gcd;rwa[Int.natAbs_natCast]
theorem zML(q:Rat):(0:Int)<q.den:=by have:=q.den_nz;omega
def isZ(q:Rat):Bool:=decide ((q.den:Int)=1)
theorem zCh{q:Rat}:isZ q=true↔∃z:Int,q=z:=by
 unfold isZ;rw[decide_eq_true_eq];constructor
 ·intro h
  exact⟨q.num,Rat.ext (by rw[Rat.num_intCast]) (by rw[Rat.den_intCast];omega)⟩
 ·rintro⟨z,rfl⟩
  rw[Rat.den_intCast];rfl
theorem zAq(v:Value)(zs:List Int)(w:World)(h:qN w v zs):
  Calls Tryz.prog 75 #[v] w fun e w'=>e= .returned (.bool true)/\Below w.heap.size w w':=by
 obtain⟨ao,n,cap,rfl,h2,h3,h4,h5⟩:=id h;have HL:=xgw h2;clear h2 h5;go_enter Tryz.func75,Tryz.ntmps75;go_wp2;go_loopw [3] (fun i wr=>∃k:Nat,k<=n/\i= .int .i64 k/\Below w.heap.size w wr) (fun i _=>n-(intOf i).toNat)
 case atStart=>exact⟨0,by omega,rfl,Below.refl _ _⟩
 case round=>
  obtain⟨k,hk,rfl,hb⟩:=hrel;by_cases hlt:k<n
  ·obtain⟨b,z,s,a,l,c,rfl,hbl,-,c1,c2,hv⟩:=(h.below hb).cell (k:=k) (by rw[HL.out];exact hlt)
   go_wp2_with fail
   refine(zCo _ _ wr hv).mono ?_;rintro e w1 ⟨rfl,hb1⟩;go_wp2;go_roundw
   case rel=>exact⟨k+1,by omega,by simp,nx hb hb1⟩
   case measure=>simp[intOf];omega
  ·obtain rfl:k=n:=by omega
   go_wp2;go_ret;exact⟨rfl,hb⟩
theorem zEu{α:Type}{xs ys:List α}{k:Nat}{x y:α}(h:xs.take k=ys.take k)(hx:xs[k]?=some x)(hy:ys[k]?=some y)(e:x=y):xs.take (k+1)=ys.take (k+1):=by
 rw[List.take_add_one,List.take_add_one,hx,hy,h,e]
theorem zCs{α:Type}{xs ys:List α}{k:Nat}{x y:α}(hx:xs[k]?=some x)(hy:ys[k]?=some y)(e:x≠y):xs≠ys:=by
 rintro rfl;rw[hx]at hy;injection hy with hy
 exact e hy
theorem zCr(v1 v2:Value)(xs ys:List Int)(w:World)(h1:qN w v1 xs)(h2:qN w v2 ys):
  Calls Tryz.prog 65 #[v1,v2] w fun e w'=>e= .returned (.bool (decide (xs=ys)))/\Below w.heap.size w w':=by
 obtain⟨ao,n,cap,rfl,e2,e3,e4,e5⟩:=id h1;obtain⟨bo,m,bcap,rfl,f2,f3,f4,f5⟩:=id h2;have HX:=xgw e2;have HY:=xgw f2;clear e2 e5 f2 f5;by_cases hlen:n=m
 ·subst hlen
  go_enter Tryz.func65,Tryz.ntmps65;go_wp2;go_loopw [5] (fun i wr=>∃k:Nat,k<=n/\i= .int .i64 k/\Below w.heap.size w wr/\Hid (xs.take k=ys.take k)) (fun i _=>n-(intOf i).toNat)
  case atStart=>exact⟨0,by omega,rfl,Below.refl _ _,by rw[List.take_zero,List.take_zero];exact xgw rfl⟩
  case round=>
   obtain⟨k,hk,rfl,hb,hsame⟩:=hrel;by_cases hlt:k<n
   ·obtain⟨b,z,s,a,l,c,rfl,hbl,hz,c1,c2,hv⟩:=(h1.below hb).cell (k:=k) (by rw[HX.out];exact hlt)
    obtain⟨b',z',s',a',l',c',rfl,hbl',hz',d1,d2,hv'⟩:=(h2.below hb).cell (k:=k) (by rw[HY.out];exact hlt);have HZ:=xgw hz;have HZ':=xgw hz';clear hz hz';have c1':=yJ c1;have c2':=yJ c2;have d1':=yJ d1;have d2':=yJ d2;go_upto_region 6 with(fail)
    go_still_tail 8,kR;change wpList _ _ _ _ _ wr.drew;go_wp2_with fail
    refine(zJn _ _ z z' _ (hv.ext (lx (dr _))) (hv'.ext (lx (dr _)))).mono ?_;rintro e w1 ⟨rfl,hb1⟩;by_cases he:z=z'
    ·rw[decide_eq_true he]
     go_wp2;go_roundw
     case rel=>exact⟨k+1,by omega,by simp,nx (nx hb (dr _)) hb1,xgw (zEu hsame.out HZ.out HZ'.out he)⟩
     case measure=>simp[intOf];omega
    ·rw[decide_eq_false he]
     go_wp2;go_ret;exact⟨by rw[decide_eq_false (zCs HZ.out HZ'.out he)];rfl,nx (nx hb (dr _)) hb1⟩
   ·obtain rfl:k=n:=by omega
    go_wp2;go_ret;refine⟨?_,hb⟩;have:=hsame.out;rw[<-HX.out,List.take_length,HX.out,<-HY.out,List.take_length]at this;rw[decide_eq_true this];rfl
 ·have hne:xs≠ys:=by rintro rfl;exact hlen (HX.out.symm.trans HY.out)
  have hd:=decide_eq_false hne;rw[hd];have hi:¬ (n:Int)=(m:Int):=by omega
  go_enter Tryz.func65,Tryz.ntmps65;go_wp2;go_ret;exact⟨rfl,Below.refl _ _⟩
def zGZ(w:World)(v:Value)(M:List (List Int)):Prop:=
 ∃ao n cap,v= .slice ao n cap/\M.length=n/\n<=cap/\cap<=9223372036854775807/\(M≠ []->∃(b o:Nat) (cs:Array Value),ao=some ⟨b,o,none⟩/\w.heap[b]?=some (.cells cs 30 (0,0))/\∀(k:Nat) (zs:List Int),M[k]?=some zs->∃rv,cs[o+k]?=some rv/\qN w rv zs)
theorem jA.off0{w:World}{v:Value}{M:List (List Int)}(h:jA w v M):zGZ w v M:=by
 obtain⟨ao,n,cap,h1,h2,h3,h4,h5⟩:=h;refine⟨ao,n,cap,h1,h2,h3,h4,fun hn=>?_⟩;obtain⟨b,cs,e1,e2,e3⟩:=h5 hn;exact⟨b,0,cs,e1,e2,fun k zs hk=>by rw[Nat.zero_add];exact e3 k zs hk⟩
theorem zGZ.below{w w':World}{v:Value}{M:List (List Int)}(h:zGZ w v M)(hb:Below w.heap.size w w'):zGZ w' v M:=by
 obtain⟨ao,n,cap,h1,h2,h3,h4,h5⟩:=h;refine⟨ao,n,cap,h1,h2,h3,h4,fun hn=>?_⟩;obtain⟨b,o,cs,e1,e2,e3⟩:=h5 hn;refine⟨b,o,cs,e1,(hb.block _ (Array.getElem?_eq_some_iff.1 e2).1).trans e2,fun k zs hk=>?_⟩;obtain⟨rv,e4,e5⟩:=e3 k zs hk;exact⟨rv,e4,e5.below hb⟩
theorem zGZ.row{w:World}{ao:Option Addr}{n cap:Nat}{M:List (List Int)}(h:zGZ w (.slice ao n cap) M){k:Nat}(hk:k<M.length):
  ∃b o ra rn rc zs,ao=some ⟨b,o,none⟩/\b<w.heap.size/\M[k]?=some zs/\w.cell? ⟨b,o+k,none⟩=some (.slice ra rn rc)/\qN w (.slice ra rn rc) zs:=by
 obtain⟨ao',n',cap',h1,h2,h3,h4,h5⟩:=h;injection h1 with e1 e2 e3
 subst e1;obtain⟨b,o,cs,e,hr,hc⟩:=h5 (by rintro rfl;simp at hk);obtain⟨rv,c1,c2⟩:=hc k _ (xga hk);obtain⟨ra,rn,rc,rfl,c3⟩:=id c2;exact⟨b,o,ra,rn,rc,_,e,(Array.getElem?_eq_some_iff.1 hr).1,xga hk,(cell_of_row w b _ cs _ _ hr).trans c1,c2⟩
def zIY(w:World)(v:Value)(R C:Int)(M:List (List Int)):Prop:=∃A,v= .agg #[.int .i64 R,.int .i64 C,A]/\zGZ w A M
theorem jE.off{w:World}{v:Value}{R C:Int}{M:List (List Int)}(h:jE w v R C M):zIY w v R C M:=by
 obtain⟨A,h1,h2⟩:=h;exact⟨A,h1,h2.off0⟩
theorem zIY.below{w w':World}{v:Value}{R C:Int}{M:List (List Int)}(h:zIY w v R C M)(hb:Below w.heap.size w w'):zIY w' v R C M:=by
 obtain⟨A,h1,h2⟩:=h;exact⟨A,h1,h2.below hb⟩
theorem zP0(v1 v2:Value)(R1 C1 R2 C2:Int)(M1 M2:List (List Int))(w:World)(h1:jE w v1 R1 C1 M1)(h2:jE w v2 R2 C2 M2):
  Calls Tryz.prog 41 #[v1,v2] w fun e w'=>e= .returned (.bool (decide (R1=R2/\C1=C2/\M1=M2)))/\Below w.heap.size w w':=by
 obtain⟨A1,rfl,h1⟩:=h1;obtain⟨A2,rfl,h2⟩:=h2;obtain⟨ao,n,cap,rfl,e2,e3,e4,-⟩:=id h1;obtain⟨bo,m,bcap,rfl,f2,f3,f4,-⟩:=id h2;have HX:=xgw e2;have HY:=xgw f2;clear e2 f2;by_cases hall:R1=R2/\C1=C2/\n=m
 ·obtain⟨rfl,rfl,rfl⟩:=hall
  have hd:decide (R1=R1/\C1=C1/\M1=M2)=decide (M1=M2):=by simp
  rw[hd];clear hd;go_enter Tryz.func41,Tryz.ntmps41;go_upto_region 1 with(fail)
  refine zB ?_;intro W0 hW0;obtain⟨hB0,bx1,bx2,hs0⟩:=qH hW0;obtain⟨c1,c2,c3,c4,c5,c6⟩:=bx1.three;obtain⟨d1,d2,d3,d4,d5,d6⟩:=bx2.three;have h1:=h1.below hB0;have h2:=h2.below hB0;go_wp2;go_loopw [5] (fun i wr=>∃k:Nat,k<=n/\i= .int .i64 k/\Below w.heap.size w wr/\Below W0.heap.size W0 wr/\Hid (M1.take k=M2.take k)) (fun i _=>n-(intOf i).toNat)
  case atStart=>exact⟨0,by omega,rfl,hB0,Below.refl _ _,by rw[List.take_zero,List.take_zero];exact xgw rfl⟩
  case round=>
   obtain⟨k,hk,rfl,hb,hb0,hsame⟩:=hrel;have bx1:=bx1.below hb0;have bx2:=bx2.below hb0;clear c1 c2 c3 c4 c5 c6 d1 d2 d3 d4 d5 d6;obtain⟨c1,c2,c3,c4,c5,c6⟩:=bx1.three;obtain⟨d1,d2,d3,d4,d5,d6⟩:=bx2.three;by_cases hlt:k<n
   ·obtain⟨b,ra,rn,rc,zs,rfl,hbl,hz,p1,hv⟩:=(h1.below hb0).row (k:=k) (by rw[HX.out];exact hlt)
    obtain⟨b',ra',rn',rc',zs',rfl,hbl',hz',q1,hv'⟩:=(h2.below hb0).row (k:=k) (by rw[HY.out];exact hlt);have HZ:=xgw hz;have HZ':=xgw hz';clear hz hz';have c3':=yJ c3;have d3':=yJ d3;have p1':=yJ p1;have q1':=yJ q1;go_upto_region 6 with(fail)
    go_still_tail 10,kR;change wpList _ _ _ _ _ wr.drew;go_wp2_with fail
    refine(zCr _ _ zs zs' _ (hv.below (dr _)) (hv'.below (dr _))).mono ?_;rintro e w1 ⟨rfl,hb1⟩;by_cases he:zs=zs'
    ·rw[decide_eq_true he]
     go_wp2;go_roundw
     case rel=>exact⟨k+1,by omega,by simp,nx (nx hb (dr _)) hb1,nx (nx hb0 (dr _)) hb1,xgw (zEu hsame.out HZ.out HZ'.out he)⟩
     case measure=>simp[intOf];omega
    ·rw[decide_eq_false he]
     go_wp2;go_ret;exact⟨by rw[decide_eq_false (zCs HZ.out HZ'.out he)];rfl,nx (nx hb (dr _)) hb1⟩
   ·obtain rfl:k=n:=by omega
    go_wp2;go_ret;refine⟨?_,hb⟩;have:=hsame.out;rw[<-HX.out,List.take_length,HX.out,<-HY.out,List.take_length]at this;rw[decide_eq_true this];rfl
 ·have hne:¬ (R1=R2/\C1=C2/\M1=M2):=by
   rintro⟨a,b,c⟩;subst c;exact hall ⟨a,b,HX.out.symm.trans HY.out⟩
  rw[decide_eq_false hne];clear hne;by_cases hR:R1=R2
  ·by_cases hC:C1=C2
   ·have hn:¬ (n:Int)=(m:Int):=fun h=>hall ⟨hR,hC,by omega⟩
    clear hall;go_enter Tryz.func41,Tryz.ntmps41;go_upto_region 1 with(fail)
    refine zB ?_;intro W0 hW0;obtain⟨hB0,bx1,bx2,hs0⟩:=qH hW0;obtain⟨c1,c2,c3,c4,c5,c6⟩:=bx1.three;obtain⟨d1,d2,d3,d4,d5,d6⟩:=bx2.three;go_wp2;go_ret;exact⟨rfl,hB0⟩
   ·clear hall
    go_enter Tryz.func41,Tryz.ntmps41;go_upto_region 1 with(fail)
    refine zB ?_;intro W0 hW0;obtain⟨hB0,bx1,bx2,hs0⟩:=qH hW0;obtain⟨c1,c2,c3,c4,c5,c6⟩:=bx1.three;obtain⟨d1,d2,d3,d4,d5,d6⟩:=bx2.three;go_wp2;go_ret;exact⟨rfl,hB0⟩
  ·clear hall
   go_enter Tryz.func41,Tryz.ntmps41;go_upto_region 1 with(fail)
   refine zB ?_;intro W0 hW0;obtain⟨hB0,bx1,bx2,hs0⟩:=qH hW0;obtain⟨c1,c2,c3,c4,c5,c6⟩:=bx1.three;obtain⟨d1,d2,d3,d4,d5,d6⟩:=bx2.three;go_wp2;go_ret;exact⟨rfl,hB0⟩
def qX(R C:Int)(M:List (List Int)):Prop:=0<=R/\0<=C/\(M.length:Int)=R/\∀r∈M,(r.length:Int)=C
instance (R C:Int) (M:List (List Int)):Decidable (qX R C M):=inferInstanceAs (Decidable (_/\_))
theorem zIF(v:Value)(R C:Int)(M:List (List Int))(w:World)(h:zIY w v R C M):
  Calls Tryz.prog 74 #[v] w fun e w'=>e= .returned (.bool (decide (qX R C M)))/\Below w.heap.size w w':=by
 obtain⟨A,rfl,h⟩:=h;obtain⟨ao,n,cap,rfl,e2,e3,e4,-⟩:=id h;have HX:=xgw e2;clear e2;by_cases hall:0<=R/\0<=C/\(n:Int)=R
 ·obtain⟨h0,h1,rfl⟩:=hall
  have hd:decide (qX n C M)=decide (∀r∈M,(r.length:Int)=C):=decide_eq_decide.2 ⟨fun h=>h.2.2.2,fun h=>⟨h0,h1,by rw[HX.out],h⟩⟩;rw[hd];clear hd;go_enter Tryz.func74,Tryz.ntmps74;go_upto_region 1 with(fail)
  refine zB ?_;intro W0 hW0;obtain⟨hB0,bx1,hs0⟩:=zK hW0;obtain⟨c1,c2,c3,c4,c5,c6⟩:=bx1.three;have h:=h.below hB0;go_wp2;go_loopw [3] (fun i wr=>∃k:Nat,k<=n/\i= .int .i64 k/\Below w.heap.size w wr/\Below W0.heap.size W0 wr/\Hid (∀r∈M.take k,(r.length:Int)=C)) (fun i _=>n-(intOf i).toNat)
  case atStart=>exact⟨0,by omega,rfl,hB0,Below.refl _ _,by rw[List.take_zero];exact xgw (fun r hr=>by cases hr)⟩
  case round=>
   obtain⟨k,hk,rfl,hb,hb0,hall⟩:=hrel;have bx1:=bx1.below hb0;clear c1 c2 c3 c4 c5 c6;obtain⟨c1,c2,c3,c4,c5,c6⟩:=bx1.three;by_cases hlt:k<n
   ·obtain⟨b,o,ra,rn,rc,zs,rfl,hbl,hz,p1,hv⟩:=(h.below hb0).row (k:=k) (by rw[HX.out];exact hlt)
    have HZ:=xgw hz;have HL:=xgw hv.len.1;clear hz;have c2':=yJ c2;have c3':=yJ c3;have p1':=yJ p1;go_upto_region 6 with(fail)
    by_cases hrc:(rn:Int)=C
    ·go_still_tail 15,kR
     change wpList _ _ _ _ _ wr.drew;go_wp2_with fail
     refine(zAq _ zs _ (hv.below (dr _))).mono ?_;rintro e w1 ⟨rfl,hb1⟩;go_wp2;go_roundw
     case rel=>
      refine⟨k+1,by omega,by simp,nx (nx hb (dr _)) hb1,nx (nx hb0 (dr _)) hb1,xgw ?_⟩;rw[List.take_add_one,HZ.out];intro r hr;rcases List.mem_append.1 hr with hr|hr
      ·exact hall.out r hr
      ·simp at hr
       rw[hr,HL.out,hrc]
     case measure=>simp[intOf];omega
    ·go_quiet (fail)
     go_wp2;go_ret;refine⟨?_,nx hb (drN _ _)⟩;have hbad:¬ ∀r∈M,(r.length:Int)=C:=fun hh=>hrc (by rw[<-HL.out];exact hh zs (xgd HZ.out))
     rw[decide_eq_false hbad];rfl
   ·obtain rfl:k=n:=by omega
    go_wp2;go_ret;refine⟨?_,hb⟩;have:=hall.out;rw[<-HX.out,List.take_length]at this;rw[decide_eq_true this];rfl
 ·have hne:¬ qX R C M:=by
   rintro⟨a,b,c,-⟩;exact hall ⟨a,b,by rw[<-HX.out];exact c⟩
  rw[decide_eq_false hne];clear hne;by_cases hR:0<=R
  ·have hR':¬ R<0:=by omega
   by_cases hC:0<=C
   ·have hn:¬ (n:Int)=R:=fun h=>hall ⟨hR,hC,h⟩
    have hC':¬ C<0:=by omega
    clear hall;go_enter Tryz.func74,Tryz.ntmps74;go_upto_region 1 with(fail)
    refine zB ?_;intro W0 hW0;obtain⟨hB0,bx1,hs0⟩:=zK hW0;obtain⟨c1,c2,c3,c4,c5,c6⟩:=bx1.three;go_wp2;go_ret;exact⟨rfl,hB0⟩
   ·have hC':C<0:=by omega
    clear hall;go_enter Tryz.func74,Tryz.ntmps74;go_upto_region 1 with(fail)
    refine zB ?_;intro W0 hW0;obtain⟨hB0,bx1,hs0⟩:=zK hW0;obtain⟨c1,c2,c3,c4,c5,c6⟩:=bx1.three;go_wp2;go_ret;exact⟨rfl,hB0⟩
  ·have hR':R<0:=by omega
   clear hall;go_enter Tryz.func74,Tryz.ntmps74;go_upto_region 1 with(fail)
   refine zB ?_;intro W0 hW0;obtain⟨hB0,bx1,hs0⟩:=zK hW0;obtain⟨c1,c2,c3,c4,c5,c6⟩:=bx1.three;go_wp2;go_ret;exact⟨rfl,hB0⟩
theorem zEo(v:Value)(R C:Int)(M:List (List Int))(w:World)(h:jE w v R C M):
  Calls Tryz.prog 74 #[v] w fun e w'=>e= .returned (.bool (decide (qX R C M)))/\Below w.heap.size w w':=zIF v R C M w h.off
theorem zA3{z:Int}(h:z=0):qJ z 0=0:=by subst h;rfl
theorem zCf{z:Int}(h:z≠0):qJ z 0≠0:=by unfold qJ;split<;>(try split)<;>omega
def zHc(i C:Nat)(r:List Int):Prop:=∀k,k<C->k≠i->r.getD k 0=0
instance (i C:Nat) (r:List Int):Decidable (zHc i C r):=inferInstanceAs (Decidable (∀k,k<C->_))
def zQK(C:Nat):Nat->Int->List (List Int)->Bool
 |_,_,[]=>true
 |i,last,r::rs=>decide (zHc i C r) && (if i<C then decide (0<=r.getD i 0) && decide (last∣r.getD i 0) && zQK C (i+1) (r.getD i 0) rs else zQK C (i+1) last rs)
def IsM(R C:Int)(M:List (List Int)):Bool:=decide (qX R C M) && zQK C.toNat 0 1 M
theorem zGs{α:Type}{l:List α}{k:Nat}{x:α}(h:l[k]?=some x):l.drop k=x::l.drop (k+1):=by
 obtain⟨h1,h2⟩:=xge.1 h;rw[List.drop_eq_getElem_cons h1,h2]
theorem zBQ{α:Type}{l:List α}{k:Nat}{x d:α}(h:l[k]?=some x):l.getD k d=x:=by simp[xgb,h]
theorem Smd.one{z:Int}(h:z.natAbs<=1):Smd z:=⟨Nat.lt_of_le_of_lt h (by
 have h1:=zFA 0 zKH (by rw[zAR];omega)
 rw[Nat.pow_zero]at h1
 exact h1)⟩
theorem zDd(v:Value)(R C:Int)(M:List (List Int))(w:World)(h:zIY w v R C M):
  Calls Tryz.prog 68 #[v] w fun e w'=>e= .returned (.bool (decide (qX R C M)))/\Below w.heap.size w w':=by
 obtain⟨A,rfl,h⟩:=h;obtain⟨ao,n,cap,rfl,e2,e3,e4,-⟩:=id h;have HX:=xgw e2;clear e2;by_cases hall:0<=R/\0<=C/\(n:Int)=R
 ·obtain ⟨h0,h1,rfl⟩:=hall
  have hd:decide (qX n C M)=decide (∀r∈M,(r.length:Int)=C):=decide_eq_decide.2 ⟨fun h=>h.2.2.2,fun h=>⟨h0,h1,by rw[HX.out],h⟩⟩;rw[hd];clear hd;go_enter Tryz.func68,Tryz.ntmps68;go_upto_region 1 with(fail)
  refine zB ?_;intro W0 hW0;obtain⟨hB0,bx1,hs0⟩:=zK hW0;obtain⟨c1,c2,c3,c4,c5,c6⟩:=bx1.three;go_wp2;clear c1 c2 c3 c4 c5 c6;go_loopw [26] (fun i wr=>∃k:Nat,k<=n/\i= .int .i64 k/\Below w.heap.size w wr/\Blk wr w.heap.size 28 #[.int .i64 n,.int .i64 C,.slice ao n cap]/\Hid (∀r∈M.take k,(r.length:Int)=C)) (fun i _=>n-(intOf i).toNat)
  case atStart=>exact⟨0,by omega,rfl,hB0,bx1,by rw[List.take_zero];exact xgw (fun r hr=>by cases hr)⟩
  case round=>
   obtain⟨k,hk,rfl,hb,bx1,hall⟩:=hrel;obtain⟨c1,c2,c3,c4,c5,c6⟩:=bx1.three;by_cases hlt:k<n
   ·obtain⟨b,o,ra,rn,rc,zs,rfl,hbl,hz,p1,hv⟩:=(h.below hb).row (k:=k) (by rw[HX.out];exact hlt)
    have HZ:=xgw hz;have hvl:=hv.len;have HL:=xgw hvl.1;obtain⟨-,hl2,hl3⟩:=hvl;clear hz;by_cases hrc:(rn:Int)=C
    ·go_wp2
     clear c1 c2 c3 c4 c5 c6;go_loopw [37] (fun j wr'=>∃m:Nat,m<=rn/\j= .int .i64 m/\Below wr.heap.size wr wr') (fun j _=>rn-(intOf j).toNat)
     case atStart=>exact⟨0,by omega,rfl,Below.refl _ _⟩
     case round=>
      rename World=>wr'
      obtain⟨m,hm,rfl,hb'⟩:=hrel;by_cases hmr:m<rn
      ·obtain⟨b',z,s,a,l,c,rfl,hbl',hzk,q1,q2,hzv⟩:=(hv.below hb').cell (k:=m) (by rw[HL.out];exact hmr)
       clear hzk;go_upto_region 11 with(fail)
       refine zB ?_;intro W6 hW6;obtain⟨hB6,T6,hs6⟩:=zK hW6;obtain⟨d1,d2,d3,d4⟩:=T6.two;clear q1 q2 hW6;go_wp2_with fail
       refine(zDJ _ z W6 (hzv.ext (lx hB6))).mono ?_;rintro e w7 ⟨rfl,hb7⟩;go_wp2;go_roundw
       case rel=>exact⟨m+1,by omega,by simp,nx (nx hb' hB6) hb7⟩
       case measure=>simp[intOf];omega
      ·obtain rfl:m=rn:=by omega
       have bx1:=bx1.below hb';go_wp2;go_roundw
       case rel=>
        refine⟨k+1,by omega,by simp,nx hb hb',bx1,xgw ?_⟩;rw[List.take_add_one,HZ.out];intro r hr;rcases List.mem_append.1 hr with hr|hr
        ·exact hall.out r hr
        ·simp at hr
         rw[hr,HL.out,hrc]
       case measure=>simp[intOf];omega
    ·go_wp2
     go_ret;refine⟨?_,hb⟩;have hbad:¬ ∀r∈M,(r.length:Int)=C:=fun hh=>hrc (by rw[<-HL.out];exact hh zs (xgd HZ.out))
     rw[decide_eq_false hbad];rfl
   ·obtain rfl:k=n:=by omega
    go_wp2;go_ret;refine⟨?_,hb⟩;have:=hall.out;rw[<-HX.out,List.take_length]at this;rw[decide_eq_true this];rfl
 ·have hne:¬ qX R C M:=by
   rintro⟨a,b,c,-⟩;exact hall ⟨a,b,by rw[<-HX.out];exact c⟩
  rw[decide_eq_false hne];clear hne;by_cases hR:0<=R
  ·have hR':¬ R<0:=by omega
   by_cases hC:0<=C
   ·have hn:¬ (n:Int)=R:=fun h=>hall ⟨hR,hC,h⟩
    have hC':¬ C<0:=by omega
    clear hall;go_enter Tryz.func68,Tryz.ntmps68;go_upto_region 1 with(fail)
    refine zB ?_;intro W0 hW0;obtain⟨hB0,bx1,hs0⟩:=zK hW0;obtain⟨c1,c2,c3,c4,c5,c6⟩:=bx1.three;go_wp2;go_ret;exact⟨rfl,hB0⟩
   ·have hC':C<0:=by omega
    clear hall;go_enter Tryz.func68,Tryz.ntmps68;go_upto_region 1 with(fail)
    refine zB ?_;intro W0 hW0;obtain⟨hB0,bx1,hs0⟩:=zK hW0;obtain⟨c1,c2,c3,c4,c5,c6⟩:=bx1.three;go_wp2;go_ret;exact⟨rfl,hB0⟩
  ·have hR':R<0:=by omega
   clear hall;go_enter Tryz.func68,Tryz.ntmps68;go_upto_region 1 with(fail)
   refine zB ?_;intro W0 hW0;obtain⟨hB0,bx1,hs0⟩:=zK hW0;obtain⟨c1,c2,c3,c4,c5,c6⟩:=bx1.three;go_wp2;go_ret;exact⟨rfl,hB0⟩
theorem yF(v:Value)(R C:Int)(M:List (List Int))(w:World)(h:jE w v R C M):
  Calls Tryz.prog 68 #[v] w fun e w'=>e= .returned (.bool (decide (qX R C M)))/\Below w.heap.size w w':=zDd v R C M w h.off
def zNn:Nat->List (List Int)->Bool
 |_,[]=>true
 |i,r::rs=>decide (zHc i r.length r) && zNn (i+1) rs
theorem Tryz.infoI:(Tryz.prog.info? tI).map (fun i=>(i.zero,i.size,i.bytes))=some (some (.agg #[.bool false,.slice none 0 0]),2,32):=by kernel_rfl
def zBV(w:World)(cells:List Value)(zs:List Int):Prop:=
 ∀(k:Nat) (z:Int),zs[k]?=some z->∃s a l c,cells[k*2]?=some (.bool s)/\cells[k*2+1]?=some (.slice a l c)/\zH w (.agg #[.bool s,.slice a l c]) z
def zBv(w:World)(base:Nat)(v:Value)(zs:List Int):Prop:=∃cells,w.ownsRow base tI 2 v zs.length cells/\zBV w cells zs
theorem zBv.below{w w':World}{base:Nat}{v:Value}{zs:List Int}(h:zBv w base v zs)(hb:Below w.heap.size w w'):zBv w' base v zs:=by
 obtain⟨cells,h1,h2⟩:=h;refine⟨cells,h1.kept (row:=none) ⟨hb.os,hb.tape,hb.output,hb.size,fun k hk _=>hb.block k hk⟩ (by cases hv:v.ownBlock<;>simp),fun k z hk=>?_⟩;obtain⟨s,a,l,c,e1,e2,e3⟩:=h2 k z hk;exact⟨s,a,l,c,e1,e2,e3.ext (lx hb)⟩
theorem zBv.vec{w:World}{base:Nat}{v:Value}{zs:List Int}(h:zBv w base v zs):qN w v zs:=by
 obtain⟨cells,⟨h0,h1⟩,h2⟩:=h;rcases h1 with⟨rfl,hn⟩|⟨g,cap,cur,rfl,hg,hh,hnc,hc,hs,ht⟩
 ·have:zs= []:=List.eq_nil_of_length_eq_zero hn
  subst this;exact qN.nil w
 ·refine⟨some ⟨g,0,none⟩,zs.length,cap,rfl,rfl,hnc,hc,fun _=>⟨g,rfl,cur,hh,fun k z hk=>?_⟩⟩
  obtain⟨s,a,l,c,e1,e2,e3⟩:=h2 k z hk;have hk':k<zs.length:=(xge.1 hk).1;rw[<-ht,List.getElem?_take_of_lt oM]at e1 e2;exact⟨s,a,l,c,by simpa using e1,by simpa using e2,e3⟩
theorem zBv.len{w:World}{base:Nat}{v:Value}{zs:List Int}(h:zBv w base v zs):∃ao cap,v= .slice ao zs.length cap/\zs.length<=cap/\cap<=9223372036854775807:=by
 obtain⟨ao,n,cap,h1,h2,h3,h4,-⟩:=h.vec;subst h2;exact⟨ao,cap,h1,h3,h4⟩
theorem zAO{w w':World}{base:Nat}{v:Value}{n:Nat}{xs:List Value}{e:TypeId}{size:Nat}(h:w.ownsRow base e size v n xs)(he:e≠tU)(hg:w.grownBy w' v.ownBlock):yI w w':=by
 intro b cs fz hb;have hlt:=(Array.getElem?_eq_some_iff.1 hb).1;by_cases hv:v.ownBlock=some b
 ·exfalso
  rcases h.2 with⟨rfl,-⟩|⟨g,cap,cur,rfl,-,hh,-⟩
  ·cases hv
  ·simp only[Value.ownBlock,Option.some.injEq]at hv
   subst hv;rw[hh]at hb;injection hb with hb
   injection hb with _ ht
   exact he ht
 ·have hne:∀k,v.ownBlock=some k->b≠k:=fun k hk e=>hv (by rw[hk,e])
  rw[hg.block b hlt (by
   intro hh;exact hv hh.symm)]
  exact hb
def qK(P:World->Value->Prop):Prop:=∀w w' v,Below w.heap.size w w'->P w v->P w' v
theorem yL(z:Int):qK (fun w v=>zH w v z):=fun _ _ _ e h=>h.ext (lx e)
theorem jC(x:Value):qK (fun _ v=>v=x):=fun _ _ _ _ h=>h
theorem jD(R C:Int)(M:List (List Int)):qK (fun w v=>jE w v R C M):=fun _ _ _ e h=>h.below e
theorem qZ(zs:List Int):qK (fun w v=>qN w v zs):=fun _ _ _ e h=>h.below e
def zCc(N:Nat)(vs:List VS):Bool:=decide (vs.map (·.slot)).Nodup && decide (vs.map (·.op)).Nodup && (vs.map (·.slot)).all (fun s=>decide (s<N))
structure RV(W:World)(T0:Array Value)(vs:List VS)(L:Array Bool)(T:Array Value)(w:World):Prop where
 wf:zCc T0.size vs=true
 lv:∀s∈vs,qK s.P
 size:T.size=T0.size
 keep:∀j,(∀s∈vs,s.slot≠j)->T[j]?=T0[j]?
 bel:Below W.heap.size W w
 val:∀s∈vs,L[s.op]?=some true->∃v,T[s.slot]?=some v/\s.P w v
section
variable {W:World} {T0:Array Value} {vs:List VS} {L:Array Bool} {T:Array Value} {w w':World}
theorem RV.start(hwf:zCc T0.size vs=true:=by kernel_rfl)(hv:∀s∈vs,qK s.P:=by repeat' (first|exact yL _|exact jC _|exact jD _ _ _|exact qZ _|assumption|refine xgm.2 ⟨?_,?_⟩|exact xgn _)){n:Nat}:RV W T0 vs (Array.replicate n false) T0 W.drew:=
 ⟨hwf,hv,rfl,fun _ _=>rfl,dr _,fun s _ h=>by
  rw[Array.getElem?_replicate]at h;split at h<;>simp at h⟩
theorem RV.world(h:RV W T0 vs L T w)(hb:Below w.heap.size w w'):RV W T0 vs L T w':=
 ⟨h.wf,h.lv,h.size,h.keep,nx h.bel hb,fun s hs hl=>by
  obtain⟨v,h1,h2⟩:=h.val s hs hl;exact⟨v,h1,h.lv s hs _ _ _ hb h2⟩⟩
theorem RV.value{k:Nat}{v:Value}(h:RV W T0 vs L T w)(s:VS)(hs:s∈vs)(hk:s.op=k)(hP:s.P w v):RV W T0 vs (L.setIfInBounds k true) (T.setIfInBounds s.slot v) w:=by
 subst hk;have hwf:=h.wf;unfold zCc at hwf;simp only[Bool.and_eq_true,decide_eq_true_eq,List.all_eq_true]at hwf;obtain⟨⟨w1,w2⟩,w3⟩:=hwf;have hslot:s.slot<T0.size:=w3 _ (List.mem_map.2 ⟨s,hs,rfl⟩);refine⟨h.wf,h.lv,by simp[h.size],fun j h1=>by rw[xgc (h1 s hs)];exact h.keep j h1,h.bel,?_⟩;intro t ht hl;by_cases he:t=s
 ·subst he
  exact⟨v,by rw[Array.getElem?_setIfInBounds_self_of_lt (by rw[h.size];exact hslot)],hP⟩
 ·have n1:t.op≠s.op:=fun e=>he (zN w2 ht hs e)
  have n2:t.slot≠s.slot:=fun e=>he (zN w1 ht hs e)
  obtain⟨u,h1,h2⟩:=h.val t ht (zL hl (Ne.symm n1));exact⟨u,by rw[xgc (Ne.symm n2)];exact h1,h2⟩
theorem RV.v{s:VS}(h:RV W T0 vs L T w)(hs:s∈vs)(hl:L[s.op]?=some true):∃v,T[s.slot]?=some v/\s.P w v:=h.val s hs hl
theorem RV.y{k:Nat}{v:Value}(h:RV W T0 vs L T w){s:VS}(hs:s∈vs)(hP:s.P w v)(hk:s.op=k:=by rfl):RV W T0 vs (L.setIfInBounds k true) (T.setIfInBounds s.slot v) w:=h.value s hs hk hP
theorem RV.cell{b o:Nat}{v:Value}(h:RV W T0 vs L T w)(hc:W.cell? ⟨b,o,none⟩=some v):w.cell? ⟨b,o,none⟩=some v:=zI hc h.bel
theorem RV.e{i s:Nat}{x:Value}(h:RV W T0 vs L T w)(hm:E i s x∈vs)(hl:L[i]?=some true):T[s]?=some x:=by
 obtain⟨v,h1,rfl⟩:=h.val _ hm hl;exact h1
theorem RV.vi{i s:Nat}{z:Int}(h:RV W T0 vs L T w)(hm:EI i s z∈vs)(hl:L[i]?=some true):∃v,T[s]?=some v/\zH w v z:=h.val _ hm hl
theorem RV.k{x:Value}(h:RV W T0 vs L T w)(j:Nat)(h2:T0[j]?=some x)(h1:(vs.all fun s=>!(s.slot==j))=true):T[j]?=some x:=
 (h.keep j (fun s hs e=>by have:=List.all_eq_true.1 h1 s hs;simp[e]at this)).trans h2
theorem RV.q{i s:Nat}{x:Value}(h:RV W T0 vs L T w)(hm:E i s x∈vs):RV W T0 vs (L.setIfInBounds i true) (T.setIfInBounds s x) w:=h.value _ hm rfl rfl
theorem RV.n{i s:Nat}{z:Int}{v:Value}(h:RV W T0 vs L T w)(hm:EI i s z∈vs)(hv:zH w v z):RV W T0 vs (L.setIfInBounds i true) (T.setIfInBounds s v) w:=h.value _ hm rfl hv
theorem RV.fin{G:Array Value->World->Prop}(hL:(vs.all fun s=>L[s.op]?==some true)=true)(h:∀w,Below W.heap.size W w->∀T,Fin w vs T0 T->G T w)(T:Array Value)(w:World)(hI:RV W T0 vs L T w):G T w:=by
 refine h w hI.bel T (zKj vs (fun j hj=>hI.keep j hj) (fun s hs=>hI.val s hs ?_) hI.size ?_)
 ·have:=List.all_eq_true.1 hL s hs
  simpa using this
 ·have hw:=hI.wf
  unfold zCc at hw;simp only[Bool.and_eq_true,decide_eq_true_eq]at hw;exact hw.1.1
end
theorem zBv.own{w:World}{base:Nat}{v:Value}{zs:List Int}(h:zBv w base v zs):∀g,v.ownBlock=some g->base<=g:=by
 intro g hg;obtain⟨cells,⟨h0,h1⟩,h2⟩:=h;rcases h1 with⟨rfl,hn⟩|⟨g',cap,cur,rfl,hg',-⟩
 ·cases hg
 ·simp only[Value.ownBlock,Option.some.injEq]at hg
  omega
def zQH(M:List (List Int))(n:Nat):List Int:=(List.range n).map fun k=>(M.getD k []).getD k 0
def zKS:Int->List Int->Bool
 |_,[]=>true
 |last,d::ds=>decide (0<=d) && decide (last∣d) && zKS d ds
def zQx(R C:Int)(M:List (List Int)):Bool:=decide (qX R C M) && (zNn 0 M && zKS 1 (zQH M (min R.toNat C.toNat)))
abbrev tR:TypeId:=30
theorem Tryz.infoR:(Tryz.prog.info? tR).map (fun i=>(i.zero,i.size,i.bytes))=some (some (.slice none 0 0),1,24):=by kernel_rfl
def zeroCells(n:Nat):Array Value:=madeCells (Value.agg #[.bool false,.slice none 0 0]).cells (n*2)
theorem mkI(m:Int)(n:Nat)(hm:m=n)(h:n<=1099511627776)(W:World):
  (Instr.makeSlice 30 (.int .i64 m) (.int .i64 m)).run Tryz.prog W= .ok (.slice (some ⟨W.heap.size,0,none⟩) n n) (W.alloc (.cells (zeroCells n) tI)):=by
 subst hm;obtain⟨i0,hi,hz0,hz1,hz2⟩:=info_parts Tryz.infoI;have:=zAd (P:=Tryz.prog) 30 tI i0 _ Tryz.underlying30 hi hz0 .i64 .i64 n n (xgf _) (by rw[hz2];omega) oM W;rw[this,hz1];rfl
theorem zDC(w:World)(n:Nat):qC (w.alloc (.cells (zeroCells n) tI)) w.heap.size (List.replicate n 0):=by
 refine⟨zeroCells n,heap_alloc_new w _,fun k z hk=>?_⟩;have hk':=(xge.1 hk);obtain⟨h1,h2⟩:=hk';rw[List.length_replicate]at h1;rw[List.getElem_replicate]at h2;subst h2;refine⟨false,none,0,0,?_,?_,zAD _⟩
 ·unfold zeroCells madeCells
  rw[Array.getElem?_eq_getElem (by simp;omega)];simp[Value.cells]
 ·unfold zeroCells madeCells
  rw[Array.getElem?_eq_getElem (by simp;omega)];have:(k*2+1)%2=1:=by omega
  simp[Value.cells,this]
def yC(C:Nat)(bs:List Nat):List Value:=bs.map fun b=>.slice (some ⟨b,0,none⟩) C C
structure zT(w:World)(base:Nat)(A:Value)(C:Nat)(bs:List Nat)(M:List (List Int)):Prop where
 own:w.ownsRow base tR 1 A bs.length (yC C bs)
 len:M.length=bs.length
 row:∀(k:Nat) (b:Nat) (r:List Int),bs[k]?=some b->M[k]?=some r->base<=b/\r.length=C/\qC w b r
 nodup:bs.Nodup
 cb:C<=1099511627776
theorem zT.below{w w':World}{base:Nat}{A:Value}{C:Nat}{bs:List Nat}{M:List (List Int)}(h:zT w base A C bs M)(hb:Below w.heap.size w w'):zT w' base A C bs M:=
 ⟨h.own.kept (row:=none) ⟨hb.os,hb.tape,hb.output,hb.size,fun k hk _=>hb.block k hk⟩ (by cases hv:A.ownBlock<;>simp),h.len,fun k b r h1 h2=>by
  obtain⟨e1,e2,e3⟩:=h.row k b r h1 h2;exact⟨e1,e2,e3.below hb⟩,h.nodup,h.cb⟩
theorem zT.keep{w w':World}{base:Nat}{A:Value}{C:Nat}{bs:List Nat}{M:List (List Int)}(h:zT w base A C bs M)(e:∀k,base<=k->w'.heap[k]?=w.heap[k]?)(x:yI w w'):zT w' base A C bs M:=by
 refine⟨⟨h.own.1,?_⟩,h.len,fun k b r h1 h2=>by
  obtain⟨e1,e2,e3⟩:=h.row k b r h1 h2;exact⟨e1,e2,e3.old (e _ e1) x⟩,h.nodup,h.cb⟩
 rcases h.own.2 with h1|⟨g,cap,cur,e1,e2,e3⟩
 ·exact .inl h1
 ·exact .inr ⟨g,cap,cur,e1,e2,(e _ e2).trans e3.1,e3.2⟩
theorem Blk.put3{w:World}{r:Nat}{T:TypeId}{c0 c1 c2:Value}(h:Blk w r T #[c0,c1,c2])(x y z:Value):Blk (((w.setCell ⟨r,0,none⟩ x).setCell ⟨r,1,none⟩ y).setCell ⟨r,2,none⟩ z) r T #[x,y,z]:=by
 simpa using((h.set_ 0 x).set_ 1 y).set_ 2 z
theorem Blk.lext3{w:World}{r:Nat}{T:TypeId}{cs:Array Value}(h:Blk w r T cs)(hne:T≠tU)(x y z:Value):yI w (((w.setCell ⟨r,0,none⟩ x).setCell ⟨r,1,none⟩ y).setCell ⟨r,2,none⟩ z):=
 ((h.lext hne 0 _).trans ((h.set_ 0 _).lext hne 1 _)).trans (((h.set_ 0 _).set_ 1 _).lext hne 2 _)
theorem yY(w:World)(b k:Nat)(x y z:Value)(h:k≠b):(((w.setCell ⟨b,0,none⟩ x).setCell ⟨b,1,none⟩ y).setCell ⟨b,2,none⟩ z).heap[k]?=w.heap[k]?:=
 (zU _ b 2 k z h).trans (zV w b 0 1 k x y h)
theorem zT.mono{w:World}{base base':Nat}{A:Value}{C:Nat}{bs:List Nat}{M:List (List Int)}(h:zT w base A C bs M)(hb:base'<=base):zT w base' A C bs M:=by
 refine⟨⟨h.own.1,?_⟩,h.len,fun k b r h1 h2=>by
  obtain⟨e1,e2,e3⟩:=h.row k b r h1 h2;exact⟨by omega,e2,e3⟩,h.nodup,h.cb⟩
 rcases h.own.2 with h1|⟨g,cap,cur,e1,e2,e3⟩
 ·exact .inl h1
 ·exact .inr ⟨g,cap,cur,e1,Nat.le_trans hb e2,e3⟩
theorem zT.fits{w:World}{base:Nat}{A:Value}{C:Nat}{bs:List Nat}{M:List (List Int)}(h:zT w base A C bs M):jT bs.length C M:=by
 refine⟨h.len,fun r hr=>?_⟩;obtain⟨k,hk,e⟩:=List.getElem_of_mem hr;have hk':k<bs.length:=by have:=h.len;omega
 exact(h.row k bs[k] r (xga hk') (by rw[xga hk,e])).2.1
theorem zT.rows{w:World}{base:Nat}{A:Value}{C:Nat}{bs:List Nat}{M:List (List Int)}(h:zT w base A C bs M):jA w A M:=by
 rcases h.own.2 with⟨rfl,h0⟩|⟨g,cap,cur,rfl,e2,e3,e4,e5,e6,e7⟩
 ·have:M= []:=List.eq_nil_of_length_eq_zero (by rw[h.len];exact h0)
  subst this;exact jA.nil w
 ·refine⟨some ⟨g,0,none⟩,bs.length,cap,rfl,h.len,e4,e5,fun _=>⟨g,cur,rfl,e3,fun k zs hk=>?_⟩⟩
  have hkM:=(xge.1 hk).1;have hkb:k<bs.length:=by have:=h.len;omega
  obtain⟨f1,f2,f3⟩:=h.row k bs[k] zs (xga hkb) hk;refine⟨.slice (some ⟨bs[k],0,none⟩) C C,?_,some ⟨bs[k],0,none⟩,C,C,rfl,f2,xgf _,by have:=h.cb;omega,fun _=>⟨_,rfl,f3⟩⟩;have:(yC C bs)[k]?=some (.slice (some ⟨bs[k],0,none⟩) C C):=by simp[yC,hkb]
  rw[<-e7,List.getElem?_take_of_lt oM]at this;simpa using this
def zPF(w:World)(base:Nat)(v:Value)(R C:Nat)(bs:List Nat)(M:List (List Int)):Prop:=bs.length=R/\∃A,v= .agg #[.int .i64 R,.int .i64 C,A]/\zT w base A C bs M
theorem zPF.mat{w:World}{base:Nat}{v:Value}{R C:Nat}{bs:List Nat}{M:List (List Int)}(h:zPF w base v R C bs M):jE w v R C M/\jT R C M:=by
 obtain⟨rfl,A,rfl,h⟩:=h;exact⟨⟨A,rfl,h.rows⟩,h.fits⟩
theorem jT.valid{R C:Nat}{M:List (List Int)}(h:jT R C M):qX R C M:=⟨by omega,by omega,by rw[h.1],fun r hr=>by rw[h.2 r hr]⟩
def zBB(w:World)(R C:Nat)(M:List (List Int))(e:Ending)(w':World):Prop:=∃v bs,e= .returned v/\zPF w' w.heap.size v R C bs M/\Below w.heap.size w w'
theorem Tryz.sizeM:(Tryz.prog.info? 28).map (·.size)=some 3:=by kernel_rfl
theorem yE{fn:Func}{a:Act}{W:World}{Q:Ending->World->Prop}{r:Nat}{x y z:Value}{p:Tmp}(h:fn.results=#[.cell p 28])(hd:a.defers= [])
  (hp:a.tmps.getD p undef= .pointer (some ⟨r,0,none⟩)) (hb:Blk W r 28 #[x,y,z]) (hQ:Q (.returned (.agg #[x,y,z])) W):bodyPost Tryz.prog fn Q .ret a W:=
 bodyPost_ret (results_cell_row h _ W r _ _ _ _ hp hb Tryz.underlying28 rfl (by rw[Tryz.sizeM];rfl)) hd hQ
theorem zDA{w:World}{base:Nat}{v:Value}{n:Nat}{xs:List Value}{b:Nat}{r:List Int}(h:w.ownsRow base tR 1 v n xs)(hr:qC w b r):some b≠v.ownBlock:=by
 intro e;rcases h.2 with⟨rfl,-⟩|⟨g,cap,cur,rfl,-,hh,-⟩
 ·cases e
 ·simp only[Value.ownBlock,Option.some.injEq]at e
  subst e;obtain⟨cs,h1,-⟩:=hr;rw[hh]at h1;injection h1 with h1
  injection h1 with _ ht
  exact absurd ht dE
theorem zQ6{w:World}{ops:Array Oper}{rest:List Oper}{o:Oper}{a:Act}{Q:Exit->Act->World->Prop}(hgd:o.guard=none)(s x:Operand)
  (ho:o.op= .call {callee:=.builtin .append,args:=#[s,x],argTypes:=#[26,26]})
  (base:Nat) (v:Value) (C:Nat) (bs:List Nat) (M:List (List Int)) (hs:a.eval s=v) (hown:zT w base v C bs M) (b c nb:Nat) (r:List Int) (hx:a.eval x= .slice (some ⟨b,0,none⟩) 1 c)
  (hb:Blk w b tR #[.slice (some ⟨nb,0,none⟩) C C]) (hr:qC w nb r) (hrl:r.length=C) (hnb:base<=nb) (hfr:∀g∈bs,g≠nb)
  (hlen:bs.length+1<=1099511627776) (hbase:base<=w.heap.size)
  (h:∀v' w',zT w' base v' C (bs++ [nb]) (M++ [r])->w.grownBy w' v.ownBlock->yI w w'->wpList Tryz.prog ops Q rest (a.put o.dst v') w'):wpList Tryz.prog ops Q (o::rest) a w:=by
 obtain⟨i0,hi,hz0,hz1,hz2⟩:=info_parts Tryz.infoR;have c0:=hb.cell 0;refine wpList_append_own w hgd s x 26 ho base tR i0 _ 1 24 Tryz.underlying26 hi hz0 hz1 hz2 rfl oM v bs.length _ hs hown.own ⟨b,0,none⟩ 1 c [.slice (some ⟨nb,0,none⟩) C C] hx rfl ?_ ?_ (by simp[maxLen];omega) oM hbase ?_
 ·intro j u hj
  rw[Addr.add_lit];match j with
  |0=>simp at hj;subst hj;exact c0
  |j+1=>simp at hj
 ·intro u hu
  simp at hu;subst hu;rfl
 ·intro v' w' k1 k2 _
  have hx:=zAO hown.own dE k2;have hkeep:∀g q,qC w g q->qC w' g q:=fun g q hq=>hq.old (k2.block g hq.lt (zDA hown.own hq)) hx
  refine h v' w' ⟨?_,by simp[hown.len],?_,?_,hown.cb⟩ k2 hx
  ·have:yC C (bs++ [nb])=yC C bs++ [.slice (some ⟨nb,0,none⟩) C C]:=by simp[yC]
   rw[this];simpa using k1
  ·intro k g q hg hq
   rcases Nat.lt_or_ge k bs.length with hlt|hge
   ·rw[List.getElem?_append_left hlt]at hg
    rw[List.getElem?_append_left (by rw[hown.len];exact hlt)]at hq;obtain⟨f1,f2,f3⟩:=hown.row k g q hg hq;exact⟨f1,f2,hkeep _ _ f3⟩
   ·rw[List.getElem?_append_right hge]at hg
    rw[List.getElem?_append_right (by rw[hown.len];exact hge),hown.len]at hq;have hk0:k-bs.length=0:=by
     have:=(xge.1 hg).1;simp at this;omega
    rw[hk0]at hg hq;simp at hg hq;subst hg;subst hq;exact⟨hnb,hrl,hkeep _ _ hr⟩
  ·rw[List.nodup_append]
   refine⟨hown.nodup,by simp,fun x hx y hy=>?_⟩;simp at hy;subst hy;exact hfr x hx
theorem qL{z:Int}{e:Nat}(h:z.natAbs<2^e)(he:e<=1000000):Sm z:=Sm.of_pow (k:=e) (Nat.lt_of_lt_of_le h (Nat.pow_le_pow_left dE e)) (by rw[qW];omega)
abbrev tQ:TypeId:=121
def jM(w:World)(v:Value)(p:Int × Int):Prop:=∃s a l c s' a' l' c',v= .agg #[.bool s,.slice a l c,.bool s',.slice a' l' c']/\zH w (.agg #[.bool s,.slice a l c]) p.1/\zH w (.agg #[.bool s',.slice a' l' c']) p.2
def jN(w:World)(v:Value)(q:Rat):Prop:=jM w v (q.num,(q.den:Int))
theorem jM.ext{w w':World}{v:Value}{p:Int × Int}(h:jM w v p)(x:yI w w'):jM w' v p:=by
 obtain⟨s,a,l,c,s',a',l',c',h1,h2,h3⟩:=h;exact⟨s,a,l,c,s',a',l',c',h1,h2.ext x,h3.ext x⟩
theorem jM.below{w w':World}{v:Value}{p:Int × Int}(h:jM w v p)(hb:Below w.heap.size w w'):jM w' v p:=h.ext (lx hb)
theorem jN.ext{w w':World}{v:Value}{q:Rat}(h:jN w v q)(x:yI w w'):jN w' v q:=jM.ext h x
theorem jN.below{w w':World}{v:Value}{q:Rat}(h:jN w v q)(hb:Below w.heap.size w w'):jN w' v q:=jM.below h hb
def zDL(w:World)(p:Int × Int)(e:Ending)(w':World):Prop:=∃v,e= .returned v/\jM w' v p/\Below w.heap.size w w'
def zAT(w:World)(q:Rat)(e:Ending)(w':World):Prop:=∃v,e= .returned v/\jN w' v q/\Below w.heap.size w w'
theorem zH.parts{w:World}{v:Value}{z:Int}(h:zH w v z):∃s a l c,v= .agg #[.bool s,.slice a l c]:=by
 obtain⟨s,a,l,c,xs,rfl,-⟩:=h;exact⟨s,a,l,c,rfl⟩
theorem zHw(p:Int × Int):qK (fun w v=>jM w v p):=fun _ _ _ e h=>h.below e
theorem qY(q:Rat):qK (fun w v=>jN w v q):=fun _ _ _ e h=>h.below e
def zFB(w:World)(cells:List Value)(ps:List (Int × Int)):Prop:=
 ∀(k:Nat) (p:Int × Int),ps[k]?=some p->∃s a l c s' a' l' c',cells[k*4]?=some (.bool s)/\cells[k*4+1]?=some (.slice a l c)/\cells[k*4+2]?=some (.bool s')/\cells[k*4+3]?=some (.slice a' l' c')∧
  zH w (.agg #[.bool s,.slice a l c]) p.1/\zH w (.agg #[.bool s',.slice a' l' c']) p.2
theorem zFB.ext{w w':World}{c:List Value}{ps:List (Int × Int)}(h:zFB w c ps)(x:yI w w'):zFB w' c ps:=fun k p hk=>by
 obtain⟨s,a,l,c,s',a',l',c',h1,h2,h3,h4,h5,h6⟩:=h k p hk;exact⟨s,a,l,c,s',a',l',c',h1,h2,h3,h4,h5.ext x,h6.ext x⟩
def zAS(w:World)(b:Nat)(ps:List (Int × Int)):Prop:=∃cs:Array Value,w.heap[b]?=some (.cells cs tQ (0,0))/\zFB w cs.toList ps
theorem zAS.lt{w:World}{b:Nat}{ps:List (Int × Int)}(h:zAS w b ps):b<w.heap.size:=by
 obtain⟨cs,h1,-⟩:=h;exact(Array.getElem?_eq_some_iff.1 h1).1
theorem zAS.old{w w':World}{b:Nat}{ps:List (Int × Int)}(h:zAS w b ps)(e:w'.heap[b]?=w.heap[b]?)(x:yI w w'):zAS w' b ps:=by
 obtain⟨cs,h1,h2⟩:=h;exact⟨cs,e.trans h1,h2.ext x⟩
theorem zAS.below{w w':World}{b:Nat}{ps:List (Int × Int)}(h:zAS w b ps)(hb:Below w.heap.size w w'):zAS w' b ps:=h.old (hb.block _ h.lt) (lx hb)
theorem zAS.cell{w:World}{b:Nat}{ps:List (Int × Int)}(h:zAS w b ps){k:Nat}{p:Int × Int}(hk:ps[k]?=some p):
  ∃s a l c s' a' l' c',w.cell? ⟨b,k*4,none⟩=some (.bool s)/\w.cell? ⟨b,k*4+1,none⟩=some (.slice a l c)/\w.cell? ⟨b,k*4+2,none⟩=some (.bool s')/\w.cell? ⟨b,k*4+3,none⟩=some (.slice a' l' c')∧
   (∀i,w.frozen? ⟨b,i,none⟩=false)/\zH w (.agg #[.bool s,.slice a l c]) p.1/\zH w (.agg #[.bool s',.slice a' l' c']) p.2:=by
 obtain⟨cs,h1,h2⟩:=h;obtain⟨s,a,l,c,s',a',l',c',e1,e2,e3,e4,e5,e6⟩:=h2 k p hk;refine⟨s,a,l,c,s',a',l',c',?_,?_,?_,?_,fun i=>frozen_of_row w b _ cs tQ h1,e5,e6⟩
 ·exact(cell_of_row w b _ cs tQ _ h1).trans (by simpa using e1)
 ·exact(cell_of_row w b _ cs tQ _ h1).trans (by simpa using e2)
 ·exact(cell_of_row w b _ cs tQ _ h1).trans (by simpa using e3)
 ·exact(cell_of_row w b _ cs tQ _ h1).trans (by simpa using e4)
def jY(w:World)(v:Value)(ps:List (Int × Int)):Prop:=
 ∃ao n cap,v= .slice ao n cap/\ps.length=n/\n<=cap/\cap<=9223372036854775807/\(ps≠ []->∃b,ao=some ⟨b,0,none⟩/\zAS w b ps)
theorem jY.nil(w:World):jY w (.slice none 0 0) []:=⟨none,0,0,rfl,rfl,xgf _,by omega,fun h=>absurd rfl h⟩
theorem jY.below{w w':World}{v:Value}{ps:List (Int × Int)}(h:jY w v ps)(hb:Below w.heap.size w w'):jY w' v ps:=by
 obtain⟨ao,n,cap,h1,h2,h3,h4,h5⟩:=h;exact⟨ao,n,cap,h1,h2,h3,h4,fun hn=>(h5 hn).elim fun b h=>⟨b,h.1,h.2.below hb⟩⟩
theorem jY.cell{w:World}{ao:Option Addr}{n cap:Nat}{ps:List (Int × Int)}(h:jY w (.slice ao n cap) ps){k:Nat}(hk:k<ps.length):
  ∃b p s a l c s' a' l' c',ao=some ⟨b,0,none⟩/\b<w.heap.size/\ps[k]?=some p/\w.cell? ⟨b,k*4,none⟩=some (.bool s)/\w.cell? ⟨b,k*4+1,none⟩=some (.slice a l c)/\w.cell? ⟨b,k*4+2,none⟩=some (.bool s')/\w.cell? ⟨b,k*4+3,none⟩=some (.slice a' l' c')∧
   zH w (.agg #[.bool s,.slice a l c]) p.1/\zH w (.agg #[.bool s',.slice a' l' c']) p.2:=by
 obtain⟨ao',n',cap',h1,h2,h3,h4,h5⟩:=h;injection h1 with e1 e2 e3
 subst e1;obtain⟨b,e,hr⟩:=h5 (by rintro rfl;simp at hk);obtain⟨s,a,l,c,s',a',l',c',c1,c2,c3,c4,-,c5,c6⟩:=hr.cell (xga hk);exact⟨b,_,s,a,l,c,s',a',l',c',e,hr.lt,xga hk,c1,c2,c3,c4,c5,c6⟩
def zQ2(w:World)(v:Value)(qs:List Rat):Prop:=jY w v (qs.map fun q=>(q.num,(q.den:Int)))
theorem Tryz.infoQ:(Tryz.prog.info? tQ).map (fun i=>(i.zero,i.size,i.bytes))=some (some (.agg #[.bool false,.slice none 0 0,.bool false,.slice none 0 0]),4,64):=by kernel_rfl
def zBt(w:World)(base:Nat)(v:Value)(ps:List (Int × Int)):Prop:=∃cells,w.ownsRow base tQ 4 v ps.length cells/\zFB w cells ps
theorem zBt.made(w:World){base:Nat}(hb:base<=w.heap.size):zBt (w.alloc (.cells #[] tQ)) base (.slice (some ⟨w.heap.size,0,none⟩) 0 0) []:=
 ⟨[],World.ownsRow_made w #[] 0 hb (Nat.zero_le _) rfl,fun k _ h=>by simp at h⟩
theorem zBt.below{w w':World}{base:Nat}{v:Value}{ps:List (Int × Int)}(h:zBt w base v ps)(hb:Below w.heap.size w w'):zBt w' base v ps:=by
 obtain⟨cells,h1,h2⟩:=h;exact⟨cells,h1.kept (row:=none) ⟨hb.os,hb.tape,hb.output,hb.size,fun k hk _=>hb.block k hk⟩ (by cases hv:v.ownBlock<;>simp),h2.ext (lx hb)⟩
theorem zBt.prs{w:World}{base:Nat}{v:Value}{ps:List (Int × Int)}(h:zBt w base v ps):jY w v ps:=by
 obtain⟨cells,⟨h0,h1⟩,h2⟩:=h;rcases h1 with⟨rfl,hn⟩|⟨g,cap,cur,rfl,hg,hh,hnc,hc,hs,ht⟩
 ·have:ps= []:=List.eq_nil_of_length_eq_zero hn
  subst this;exact jY.nil w
 ·refine⟨some ⟨g,0,none⟩,ps.length,cap,rfl,rfl,hnc,hc,fun _=>⟨g,rfl,cur,hh,fun k p hk=>?_⟩⟩
  obtain⟨s,a,l,c,s',a',l',c',e1,e2,e3,e4,e5,e6⟩:=h2 k p hk;have hk':k<ps.length:=(xge.1 hk).1;rw[<-ht,List.getElem?_take_of_lt oM]at e1 e2 e3 e4;exact⟨s,a,l,c,s',a',l',c',e1,e2,e3,e4,e5,e6⟩
theorem zBt.shape{w:World}{base:Nat}{v:Value}{ps:List (Int × Int)}(h:zBt w base v ps):∃ao cap,v= .slice ao ps.length cap/\ps.length<=cap/\cap<=9223372036854775807:=by
 obtain⟨ao,n,cap,h1,h2,h3,h4,-⟩:=h.prs;subst h2;exact⟨ao,cap,h1,h3,h4⟩
theorem zBt.own{w:World}{base:Nat}{v:Value}{ps:List (Int × Int)}(h:zBt w base v ps):∀g,v.ownBlock=some g->base<=g/\g<w.heap.size:=by
 obtain⟨cells,h1,-⟩:=h;exact World.ownsRow.lt h1
theorem zQF{w:World}{ops:Array Oper}{rest:List Oper}{o:Oper}{a:Act}{Q:Exit->Act->World->Prop}(hgd:o.guard=none)(s x:Operand)
  (ho:o.op= .call {callee:=.builtin .append,args:=#[s,x],argTypes:=#[37,37]})
  (base:Nat) (v:Value) (ps:List (Int × Int)) (hs:a.eval s=v) (hown:zBt w base v ps) (b:Nat) (c:Nat) (s1:Bool) (a1:Option Addr) (l1 c1:Nat) (s2:Bool) (a2:Option Addr) (l2 c2:Nat) (p:Int × Int) (hx:a.eval x= .slice (some ⟨b,0,none⟩) 1 c)
  (hb:Blk w b tQ #[.bool s1,.slice a1 l1 c1,.bool s2,.slice a2 l2 c2]) (hz1:zH w (.agg #[.bool s1,.slice a1 l1 c1]) p.1) (hz2:zH w (.agg #[.bool s2,.slice a2 l2 c2]) p.2)
  (hlen:ps.length+1<=1099511627776) (hbase:base<=w.heap.size)
  (h:∀v' w',zBt w' base v' (ps++ [p])->w.grownBy w' v.ownBlock->yI w w'->wpList Tryz.prog ops Q rest (a.put o.dst v') w'):wpList Tryz.prog ops Q (o::rest) a w:=by
 obtain⟨i0,hi,hy0,hy1,hy2⟩:=info_parts Tryz.infoQ;obtain⟨cells,h1,h2⟩:=hown;have hcl:cells.length=ps.length*4:=h1.1;have q0:=hb.cell 0;have q1:=hb.cell 1;have q2:=hb.cell 2;have q3:=hb.cell 3;refine wpList_append_own w hgd s x 37 ho base tQ i0 _ 4 64 Tryz.underlying37 hi hy0 hy1 hy2 rfl oM v ps.length cells hs h1 ⟨b,0,none⟩ 1 c [.bool s1,.slice a1 l1 c1,.bool s2,.slice a2 l2 c2] hx rfl ?_ ?_ (by simp[maxLen];omega) oM hbase ?_
 ·intro j u hj
  rw[Addr.add_lit];match j with
  |0=>simp at hj;subst hj;exact q0
  |1=>simp at hj;subst hj;exact q1
  |2=>simp at hj;subst hj;exact q2
  |3=>simp at hj;subst hj;exact q3
  |j+4=>simp at hj
 ·intro u hu
  simp at hu;rcases hu with rfl|rfl|rfl|rfl<;>rfl
 ·intro v' w' k1 k2 _
  have hx:=zAO h1 dE k2;refine h v' w' ⟨cells++ [.bool s1,.slice a1 l1 c1,.bool s2,.slice a2 l2 c2],by simpa using k1,?_⟩ k2 hx;intro k y hk;rcases Nat.lt_or_ge k ps.length with hlt|hge
  ·rw[List.getElem?_append_left hlt]at hk
   obtain⟨s,a,l,c,s',a',l',c',e1,e2,e3,e4,e5,e6⟩:=h2 k y hk;refine⟨s,a,l,c,s',a',l',c',?_,?_,?_,?_,e5.ext hx,e6.ext hx⟩<;>(rw[List.getElem?_append_left oM];assumption)
  ·rw[List.getElem?_append_right hge]at hk
   have hk0:k=ps.length:=by
    have:=(xge.1 hk).1;simp at this;omega
   subst hk0;simp at hk;subst hk;refine⟨s1,a1,l1,c1,s2,a2,l2,c2,?_,?_,?_,?_,hz1.ext hx,hz2.ext hx⟩
   ·rw[List.getElem?_append_right oM,hcl];simp
   ·rw[List.getElem?_append_right oM,hcl,show ps.length*4+1-ps.length*4=1 by omega];rfl
   ·rw[List.getElem?_append_right oM,hcl,show ps.length*4+2-ps.length*4=2 by omega];rfl
   ·rw[List.getElem?_append_right oM,hcl,show ps.length*4+3-ps.length*4=3 by omega];rfl
section
variable {w:World} {g:Nat} {t:TypeId} {c0 c1 c2 c3:Value}
theorem Blk.four(h:Blk w g t #[c0,c1,c2,c3]):w.cell? ⟨g,0,none⟩=some c0/\w.cell? ⟨g,1,none⟩=some c1/\w.cell? ⟨g,2,none⟩=some c2/\w.cell? ⟨g,3,none⟩=some c3/\w.frozen? ⟨g,0,none⟩=false/\w.frozen? ⟨g,1,none⟩=false/\w.frozen? ⟨g,2,none⟩=false/\w.frozen? ⟨g,3,none⟩=false:=
 ⟨h.cell 0,h.cell 1,h.cell 2,h.cell 3,h.frozen 0,h.frozen 1,h.frozen 2,h.frozen 3⟩
theorem Blk.put4(h:Blk w g t #[c0,c1,c2,c3])(x0 x1 x2 x3:Value):Blk ((((w.setCell ⟨g,0,none⟩ x0).setCell ⟨g,1,none⟩ x1).setCell ⟨g,2,none⟩ x2).setCell ⟨g,3,none⟩ x3) g t #[x0,x1,x2,x3]:=by
 simpa using(((h.set_ 0 x0).set_ 1 x1).set_ 2 x2).set_ 3 x3
theorem Blk.lext4{cs:Array Value}(h:Blk w g t cs)(hne:t≠tU)(i:Nat)(x0 x1 x2 x3:Value):yI w ((((w.setCell ⟨g,i,none⟩ x0).setCell ⟨g,i+1,none⟩ x1).setCell ⟨g,i+2,none⟩ x2).setCell ⟨g,i+3,none⟩ x3):=
 (((h.lext hne i _).trans ((h.set_ i _).lext hne (i+1) _)).trans (((h.set_ i _).set_ (i+1) _).lext hne (i+2) _)).trans ((((h.set_ i _).set_ (i+1) _).set_ (i+2) _).lext hne (i+3) _)
theorem zDG(w:World)(b i k:Nat)(x y z u:Value)(h:k≠b):((((w.setCell ⟨b,i,none⟩ x).setCell ⟨b,i+1,none⟩ y).setCell ⟨b,i+2,none⟩ z).setCell ⟨b,i+3,none⟩ u).heap[k]?=w.heap[k]?:=
 (zU _ b _ k u h).trans ((zU _ b _ k z h).trans (zV w b i (i+1) k x y h))
theorem jB{B:Nat}{a:World}(h:Below B a w)(hp:B<=g)(i:Nat)(x y z u:Value):Below B a ((((w.setCell ⟨g,i,none⟩ x).setCell ⟨g,i+1,none⟩ y).setCell ⟨g,i+2,none⟩ z).setCell ⟨g,i+3,none⟩ u):=zO (zO (zO (zO h hp _ _) hp _ _) hp _ _) hp _ _
end
theorem Tryz.sizeQ:(Tryz.prog.info? tQ).map (·.size)=some 4:=by kernel_rfl
theorem qP{fn:Func}{a:Act}{w W:World}{q:Int × Int}{r:Nat}{x0 x1 x2 x3:Value}{p:Tmp}(h:fn.results=#[.cell p tQ])(hd:a.defers= [])
  (hp:a.tmps.getD p undef= .pointer (some ⟨r,0,none⟩)) (hb:Blk W r tQ #[x0,x1,x2,x3]) (hv:jM W (.agg #[x0,x1,x2,x3]) q) (hbel:Below w.heap.size w W):bodyPost Tryz.prog fn (zDL w q) .ret a W:=
 bodyPost_ret (results_cell_row h _ W r _ _ _ _ hp hb Tryz.underlying121 rfl (by rw[Tryz.sizeQ];rfl)) hd ⟨_,rfl,hv,hbel⟩
theorem zLg{W:World}{r:Nat}{v:Array Value}(hb:Blk W r tQ v)(h4:v.size=4):(loadVar tQ ⟨r,0,none⟩).run Tryz.prog W= .ok (.agg v) W:=
 run_loadVar_row W r _ _ v _ _ hb Tryz.underlying121 rfl (by rw[Tryz.sizeQ,h4])
theorem zCM{fn:Func}{p u:Tmp}(h:fn.results=#[.cell p tQ,.tmp u])(tmps:Array Value){W:World}{r:Nat}{v:Array Value}
  (hp:tmps.getD p undef= .pointer (some ⟨r,0,none⟩)) (hb:Blk W r tQ v) (h4:v.size=4):
  (results fn tmps).run Tryz.prog W= .ok (.tuple #[.agg v,tmps.getD u undef]) W:=by
 have hp':tmps[p]?.getD undef= .pointer (some ⟨r,0,none⟩):=by simpa using hp
 simp[results,h,hp',asAddr,zLg hb h4]
end Go.Proofs.YtnbmaipobhppcaaGreat
